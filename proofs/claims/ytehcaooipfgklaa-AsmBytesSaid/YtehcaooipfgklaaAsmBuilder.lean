import Derived.WalkKit
import Derived.WalkSpells
import Derived.WalkLawsBesides
import Derived.Lib.Builder
import Derived.Lib.Walk
import Derived.Lib.AppendStr
import Derived.Lib.UnsafeStr
import Derived.Laws.Externs
import Derived.BigRegion
import Derived.Test.YtehcaooipfgklaaPAsmBld
import Derived.Test.YtehcaooipfgklaaAvBody
import Derived.Test.YtehcaooipfgklaaProg
namespace Go.Proofs.Ytehcaooipfgklaa
open Go Go.RowKit Go.Av Go.Proofs

section
variable {P : Program} (w : World)
/-- append of a string's bytes, and that the row of the outcome is the old one or new. -/
theorem run_app_new (t u ty e : TypeId) (i : TypeInfo) (ht : P.underlying t = some (.slice e)) (hu : P.underlying u = some .string) (hi : P.info? e = some i) (hz : i.zero = some (.int .u8 0))
    (hsize : i.size = 1) (hby : i.bytes = 1) (v : Value) (n : Nat) (xs : List Value) (hown : w.ownsRow 0 e 1 v n xs) (s : ByteArray) (hlen : n + s.size ≤ 140737488355328) :
    ∃ v' w', (Builtin.append_ #[t, u] ty #[v, .string s]).run P w = .ok v' w' ∧ w'.ownsRow 0 e 1 v' (n + s.size) (xs ++ Lib.strCells s) ∧ w.grownBy w' v.ownBlock ∧ (v'.ownBlock = v.ownBlock ∨ ∀ k, v'.ownBlock = some k → w.heap.size ≤ k) := by
  have h63 : n + s.size ≤ maxLen := by unfold maxLen; omega
  obtain ⟨v', w', hr, ho, hg, _⟩ := Lib.run_append_own_string (P := P) w 0 t u ty e i ht hu hi hz hsize hby v n xs hown s h63 hlen (Nat.zero_le _)
  refine ⟨v', w', hr, ho, hg, ?_⟩
  have hxl : xs.length = n := by simpa using hown.1
  rcases hown.2 with ⟨rfl, rfl⟩ | ⟨g, cap, cur, rfl, hbg, hgg, hnc, hcm, hcs, htake⟩
  · obtain ⟨v2, w2, hr2, ho2, _, _⟩ := Lib.run_append_own_string (P := P) w w.heap.size t u ty e i ht hu hi hz hsize hby (.slice none 0 0) 0 xs ⟨hown.1, .inl ⟨rfl, rfl⟩⟩ s h63 hlen (Nat.le_refl _)
    rw [hr] at hr2
    cases hr2
    exact .inr fun k hk => (ho2.lt k hk).1
  · have hcs' : cur.size = cap := by simpa using hcs
    by_cases hroom : n + s.size ≤ cap
    · have hr2 := Lib.run_append_room_string (P := P) w t u ty e i ht hu hi hsize g n cap cur hgg s hroom (by omega)
      rw [hr] at hr2
      cases hr2
      exact .inl rfl
    · have holds : ∀ j u, xs[j]? = some u → w.cell? ((⟨g, 0, none⟩ : Addr).add j) = some u := hown.cells (g := g) rfl
      have hr2 := Lib.run_append_grow_string (P := P) w t u ty e i (.int .u8 0) ht hu hi hz ⟨g, 0, none⟩ n cap xs (by rw [hsize]; simpa using hxl) holds s (by omega) (by omega) (by rw [hby]; exact growslice_fits (by omega) (by omega))
      rw [hr] at hr2
      cases hr2
      exact .inr fun k hk => by simp only [Value.ownBlock, Option.some.injEq] at hk; omega

theorem wpList_app_new {w : World} {ops : Array Oper} {rest : List Oper} {o : Oper} {a : Act} {Q : Exit → Act → World → Prop} (hgd : o.guard = none) (sl x : Operand) (t u : TypeId)
    (ho : o.op = .call { callee := .builtin .append, args := #[sl, x], argTypes := #[t, u] })
    (e : TypeId) (i : TypeInfo) (ht : P.underlying t = some (.slice e)) (hu : P.underlying u = some .string) (hi : P.info? e = some i) (hz : i.zero = some (.int .u8 0))
    (hsize : i.size = 1) (hby : i.bytes = 1)
    (v : Value) (n : Nat) (xs : List Value) (hs : a.eval sl = v) (hown : w.ownsRow 0 e 1 v n xs) (s : ByteArray) (hx : a.eval x = .string s) (hlen : n + s.size ≤ 140737488355328)
    (h : ∀ v' w', w'.ownsRow 0 e 1 v' (n + s.size) (xs ++ Lib.strCells s) → w.grownBy w' v.ownBlock → (v'.ownBlock = v.ownBlock ∨ ∀ k, v'.ownBlock = some k → w.heap.size ≤ k) → wpList P ops Q rest (a.put o.dst v') w') : wpList P ops Q (o :: rest) a w := by
  refine wpList_plain hgd fun K hK => ?_
  obtain ⟨v', w', hr, h2, h3, h4⟩ := run_app_new (P := P) w t u o.type e i ht hu hi hz hsize hby v n xs hown s hlen
  unfold Oper.wp execOp
  simp only [ho, resolve, invoke, builtin, Sem.run_bind, Sem.run_pure, Result.andThen_ok, List.map_toArray, List.map_cons, List.map_nil, hs, hx, hr]
  exact hK _ _ (h v' w' h2 h3 h4)
end

set_option maxRecDepth 100000 in
set_option maxHeartbeats 4000000 in
theorem copy_used (b : Nat) (w : World) (h0 : w.cell? ⟨b, 0, none⟩ = some (.pointer (some ⟨b, 0, none⟩))) :
    Calls Try.prog 34 #[.pointer (some ⟨b, 0, none⟩)] w fun e w' => e = .returned (.tuple #[]) ∧ w' = w := by
  have hq : (binOp .neq 58 (.pointer (some ⟨b, 0, none⟩)) (.pointer (some ⟨b, 0, none⟩))).run Try.prog w = .ok (.bool false) w := by
    obtain ⟨j, hj, _⟩ := Option.map_eq_some_iff.1 (show (Try.prog.info? 61).map (fun i => i.size) = some 2 by kernel_rfl)
    exact Lib.run_neq_ptr_same w ⟨b, 0, none⟩ (show Try.prog.underlying 58 = some (.pointer 61) by kernel_rfl) hj
  go_enter Try.func34, Try.ntmps34
  go_wp2
  go_end0
  exact ⟨rfl, rfl⟩

set_option maxRecDepth 100000 in
set_option maxHeartbeats 4000000 in
theorem copy_fresh (b : Nat) (w : World) (h0 : w.cell? ⟨b, 0, none⟩ = some (.pointer none)) (hsh : w.shape? b = some (61, 2)) (hfz : w.frozen? ⟨b, 0, none⟩ = false) :
    Calls Try.prog 34 #[.pointer (some ⟨b, 0, none⟩)] w fun e w' => e = .returned (.tuple #[]) ∧ w' = w.setCell ⟨b, 0, none⟩ (.pointer (some ⟨b, 0, none⟩)) := by
  obtain ⟨j, hj, hjs⟩ := Option.map_eq_some_iff.1 (show (Try.prog.info? 61).map (fun i => i.size) = some 2 by kernel_rfl)
  have hu1 : (convert 58 102 (.pointer (some ⟨b, 0, none⟩))).run Try.prog w = .ok (.pointer (some ⟨b, 0, none⟩)) w :=
    Lib.run_to_unsafe w ⟨b, 0, none⟩ (show Try.prog.underlying 58 = some (.pointer 61) by kernel_rfl) (show Try.prog.underlying 102 = some .unsafePointer by kernel_rfl) hj (by rw [hjs]; decide) hsh (Nat.zero_lt_succ 1)
  go_enter Try.func34, Try.ntmps34
  go_wp2
  rw [run_callFunc_extern Try.func52 (by kernel_rfl) (by kernel_rfl) (by kernel_rfl) (e := Extern.AbiNoEscape.same) (by kernel_rfl)]
  rw [Lib.run_noEscape]
  simp only [Result.andThen]
  rw [Oper.upon_value]
  go_wp2
  rw [Lib.run_from_unsafe w ⟨b, 0, none⟩ (show Try.prog.underlying 102 = some .unsafePointer by kernel_rfl) (show Try.prog.underlying 58 = some (.pointer 61) by kernel_rfl) hj hsh (by kernel_rfl)]
  simp only [Result.andThen]
  rw [Oper.upon_value]
  go_wp2
  go_end0
  exact ⟨rfl, rfl⟩

theorem setCell_heap {w : World} {b : Nat} {c : Array Value} {T : TypeId} (h : w.heap[b]? = some (.cells c T (0, 0))) (o : Nat) (v : Value) : (w.setCell ⟨b, o, none⟩ v).heap[b]? = some (.cells (c.setIfInBounds o v) T (0, 0)) := by
  simp [World.setCell, Array.getElem?_modify, h]
theorem setCell_other (w : World) {b x : Nat} (hx : x ≠ b) (o : Nat) (v : Value) : (w.setCell ⟨b, o, none⟩ v).heap[x]? = w.heap[x]? := by
  simp [World.setCell, Array.getElem?_modify, Ne.symm hx]
theorem setCell_size (w : World) (a : Addr) (v : Value) : (w.setCell a v).heap.size = w.heap.size := by
  simp [World.setCell]

/-- copyCheck, of a builder that is fresh or has been used. -/
theorem copy_any (b : Nat) (p v : Value) (w : World) (hb : w.heap[b]? = some (.cells #[p, v] 61 (0, 0))) (hp : p = .pointer none ∨ p = .pointer (some ⟨b, 0, none⟩)) :
    Calls Try.prog 34 #[.pointer (some ⟨b, 0, none⟩)] w fun e w' => e = .returned (.tuple #[]) ∧ w'.heap[b]? = some (.cells #[.pointer (some ⟨b, 0, none⟩), v] 61 (0, 0)) ∧
      (∀ x, x ≠ b → w'.heap[x]? = w.heap[x]?) ∧ w'.heap.size = w.heap.size ∧ w'.os = w.os ∧ w'.tape = w.tape ∧ w'.output = w.output := by
  rcases hp with rfl | rfl
  · refine (copy_fresh b w (by simp [World.cell?, hb]) (by simp [World.shape?, hb]) (by simp [World.frozen?, hb])).mono ?_
    rintro e w' ⟨rfl, rfl⟩
    refine ⟨rfl, ?_, fun x hx => setCell_other w hx _ _, setCell_size _ _ _, rfl, rfl, rfl⟩
    rw [setCell_heap hb]
    rfl
  · refine (copy_used b w (by simp [World.cell?, hb])).mono ?_
    rintro e w' ⟨rfl, rfl⟩
    exact ⟨rfl, hb, fun _ _ => rfl, rfl, rfl, rfl, rfl⟩

set_option maxRecDepth 100000 in
set_option maxHeartbeats 4000000 in
/-- WriteString. -/
theorem write_run (b : Nat) (p v : Value) (xs : List Value) (s : ByteArray) (w : World) (hb : w.heap[b]? = some (.cells #[p, v] 61 (0, 0))) (hp : p = .pointer none ∨ p = .pointer (some ⟨b, 0, none⟩))
    (hown : w.ownsRow 0 5 1 v xs.length xs) (hne : v.ownBlock ≠ some b) (hlen : xs.length + s.size ≤ 140737488355328) :
    Calls Try.prog 19 #[.pointer (some ⟨b, 0, none⟩), .string s] w fun e w' => (∃ r, e = .returned r) ∧ ∃ (v' : Value) (w1 w2 : World), w'.heap[b]? = some (.cells #[.pointer (some ⟨b, 0, none⟩), v'] 61 (0, 0)) ∧
      w2.ownsRow 0 5 1 v' (xs.length + s.size) (xs ++ Lib.strCells s) ∧ (∀ x, x ≠ b → w'.heap[x]? = w2.heap[x]?) ∧ w'.heap.size = w2.heap.size ∧ w'.os = w2.os ∧ w'.tape = w2.tape ∧ w'.output = w2.output ∧
      w1.grownBy w2 v.ownBlock ∧ (∀ x, x ≠ b → w1.heap[x]? = w.heap[x]?) ∧ w1.heap.size = w.heap.size ∧ w1.os = w.os ∧ w1.tape = w.tape ∧ w1.output = w.output ∧ (v'.ownBlock = v.ownBlock ∨ ∀ k, v'.ownBlock = some k → w.heap.size ≤ k) := by
  obtain ⟨i0, hi, hz0, hz1, hz2⟩ := info_parts (show (Try.prog.info? 5).map (fun i => (i.zero, i.size, i.bytes)) = some (some (.int .u8 0), 1, 1) by kernel_rfl)
  go_enter Try.func19, Try.ntmps19
  go_wp2_with (go_at_call 34; refine (copy_any b p v _ hb hp).mono ?_)
  rintro e w1 ⟨rfl, hbk, hoth, hsz, hos, htp, hout⟩
  have hown1 : w1.ownsRow 0 5 1 v xs.length xs := by
    refine ⟨hown.1, ?_⟩
    rcases hown.2 with h | ⟨g, cap, cur, hv, hg, hc, r⟩
    · exact .inl h
    · exact .inr ⟨g, cap, cur, hv, hg, (hoth g (fun e => hne (by rw [hv, e]; rfl))).trans hc, r⟩
  have hlt : b < w1.heap.size := by
    rcases Nat.lt_or_ge b w1.heap.size with h' | h'
    · exact h'
    · simp [Array.getElem?_eq_none h'] at hbk
  have c0 : w1.cell? ⟨b, 0, none⟩ = some (.pointer (some ⟨b, 0, none⟩)) := by rw [Lib.cell_of_heap hbk]; rfl
  have c1 : w1.cell? ⟨b, 1, none⟩ = some v := by rw [Lib.cell_of_heap hbk]; rfl
  go_wp2_with (at_builtin; refine wpList_app_new rfl _ _ 59 9 rfl 5 i0 (show Try.prog.underlying 59 = some (.slice 5) by kernel_rfl) (show Try.prog.underlying 9 = some .string by kernel_rfl) hi hz0 hz1 hz2 _ _ _ rfl hown1 s rfl hlen ?_)
  intro v' w2 hown' hgrow hnew
  have hb2 : w2.heap[b]? = some (.cells #[.pointer (some ⟨b, 0, none⟩), v] 61 (0, 0)) := by
    rw [hgrow.block b hlt (fun e => hne e.symm)]
    exact hbk
  have d0 : w2.cell? ⟨b, 0, none⟩ = some (.pointer (some ⟨b, 0, none⟩)) := by rw [Lib.cell_of_heap hb2]; rfl
  have d1 : w2.cell? ⟨b, 1, none⟩ = some v := by rw [Lib.cell_of_heap hb2]; rfl
  have f1 : w2.frozen? ⟨b, 1, none⟩ = false := Lib.frozen_of_heap hb2 1
  obtain ⟨ao, n', cap, rfl⟩ : ∃ ao n' cap, v' = .slice ao n' cap := by
    rcases hown'.2 with ⟨hv, _⟩ | ⟨g, cap, cur, hv, _⟩
    · exact ⟨_, _, _, hv⟩
    · exact ⟨_, _, _, hv⟩
  go_wp2
  go_ret2
  refine ⟨⟨_, rfl⟩, .slice ao n' cap, w1, w2, ?_, hown', fun x hx => setCell_other w2 hx _ _, setCell_size _ _ _, rfl, rfl, rfl, hgrow, hoth, hsz, hos, htp, hout, hnew⟩
  rw [setCell_heap hb2]
  rfl

theorem grown_drew (w : World) (row : Option Nat) : w.grownBy w.drew row := ⟨rfl, rfl, rfl, Nat.le_refl _, fun _ _ _ => rfl⟩
theorem grown_freeze {w a : World} {g : Nat} (h : a.grownBy w (some g)) (n : Nat) : a.grownBy (w.freeze ⟨g, 0, none⟩ n) (some g) := by
  unfold World.freeze
  split
  · exact h
  · refine ⟨h.os, h.tape, h.output, by simpa using h.size, fun k hk hne => ?_⟩
    simp only [Array.getElem?_modify]
    rw [if_neg (fun e => hne (by rw [← e]))]
    exact h.block k hk hne

set_option maxRecDepth 100000 in
set_option maxHeartbeats 4000000 in
/-- String. -/
theorem string_run (b : Nat) (p v : Value) (l : List UInt8) (w : World) (hb : w.heap[b]? = some (.cells #[p, v] 61 (0, 0)))
    (hown : w.ownsRow 0 5 1 v l.length (l.map fun x => Value.int .u8 x.toNat)) :
    Calls Try.prog 20 #[.pointer (some ⟨b, 0, none⟩)] w fun e w' => e = .returned (.string ⟨l.toArray⟩) ∧ w.grownBy w' v.ownBlock := by
  have hUS0 : ∀ (W : World) q, (Builtin.unsafeString_ #[83, 3] 9 #[.pointer q, .int .i64 0]).run Try.prog W = .ok (.string .empty) W := fun W q => Lib.run_unsafeString_none W _ _ _ q
  have c1 : w.drew.cell? ⟨b, 1, none⟩ = some v := by
    have : w.drew.heap[b]? = some (.cells #[p, v] 61 (0, 0)) := hb
    rw [Lib.cell_of_heap this]; rfl
  rcases hown.2 with ⟨rfl, hz⟩ | ⟨g, cap, cur, rfl, hbg, hg, hnc, hcm, hcs, htake⟩
  · have : l = [] := List.eq_nil_of_length_eq_zero hz
    subst this
    have hSD : (Builtin.unsafeSliceData_ #[59] 83 #[.slice none 0 0]).run Try.prog w.drew = .ok (.pointer none) w.drew := rfl
    go_enter Try.func20, Try.ntmps20
    go_wp2
    go_region
    all_goals (go_wp2; go_ret; exact ⟨rfl, grown_drew w _⟩)
  · have hbw : w.drew.heap[b]? = some (.cells #[p, .slice (some ⟨g, 0, none⟩) l.length cap] 61 (0, 0)) := hb
    by_cases h0 : l = []
    · subst h0
      by_cases hc : cap = 0
      · subst hc
        have hlt : b < w.heap.size := by
          rcases Nat.lt_or_ge b w.heap.size with h' | h'
          · exact h'
          · simp [Array.getElem?_eq_none h'] at hb
        have hg' : w.drew.heap[g]? = some (.cells cur 5 (0, 0)) := hg
        have hSD : (Builtin.unsafeSliceData_ #[59] 83 #[.slice (some ⟨g, 0, none⟩) 0 0]).run Try.prog w.drew = .ok (.pointer (some ⟨w.drew.heap.size, 0, none⟩)) (w.drew.alloc (.view ⟨g, 0, none⟩ 5)) :=
          Lib.run_unsafeSliceData_zero w.drew _ _ 5 (show Try.prog.underlying 83 = some (.pointer 5) by kernel_rfl) ⟨g, 0, none⟩ 0 (5, cur.size) (by simp [World.shape?, hg'])
        have c2 : (w.drew.alloc (.view ⟨g, 0, none⟩ 5)).cell? ⟨b, 1, none⟩ = some (.slice (some ⟨g, 0, none⟩) 0 0) := by
          have : (w.drew.alloc (.view ⟨g, 0, none⟩ 5)).heap[b]? = _ := (Lib.alloc_old w.drew _ b hlt).trans hbw
          rw [Lib.cell_of_heap this]; rfl
        have c3 : (w.alloc (.view ⟨g, 0, none⟩ 5)).drew.cell? ⟨b, 1, none⟩ = some (.slice (some ⟨g, 0, none⟩) 0 0) := c2
        have c0 : w.cell? ⟨b, 1, none⟩ = some (.slice (some ⟨g, 0, none⟩) 0 0) := c1
        go_enter Try.func20, Try.ntmps20
        go_wp2
        go_region
        all_goals (go_wp2; go_ret; exact ⟨rfl, rfl, rfl, rfl, (World.grownBy_alloc w.drew _ none).size, fun k hk _ => (World.grownBy_alloc w.drew _ none).block k hk (by simp)⟩)
      · have hSD : (Builtin.unsafeSliceData_ #[59] 83 #[.slice (some ⟨g, 0, none⟩) 0 cap]).run Try.prog w.drew = .ok (.pointer (some ⟨g, 0, none⟩)) w.drew :=
          Lib.run_unsafeSliceData_row _ _ _ _ _ _ hc
        clear hc
        go_enter Try.func20, Try.ntmps20
        go_wp2
        go_region
        all_goals (go_wp2; go_ret; exact ⟨rfl, grown_drew w _⟩)
    · have hl0 : l.length ≠ 0 := by simpa using h0
      have hSD : (Builtin.unsafeSliceData_ #[59] 83 #[.slice (some ⟨g, 0, none⟩) l.length cap]).run Try.prog w.drew = .ok (.pointer (some ⟨g, 0, none⟩)) w.drew :=
        Lib.run_unsafeSliceData_row _ _ _ _ _ _ (by omega)
      have hUS : (Builtin.unsafeString_ #[83, 3] 9 #[.pointer (some ⟨g, 0, none⟩), .int .i64 l.length]).run Try.prog w.drew = .ok (.string ⟨l.toArray⟩) (w.drew.freeze ⟨g, 0, none⟩ l.length) := by
        refine Lib.run_unsafeString_row w.drew 83 3 9 5 (show Try.prog.underlying 83 = some (.pointer 5) by kernel_rfl) (show Try.prog.cellsOf 5 = 1 by kernel_rfl) g cur.size (by have hg' : w.drew.heap[g]? = some (.cells cur 5 (0, 0)) := hg; simp [World.shape?, hg']) l h0 (by omega) (by unfold maxLen at hcm; omega) ?_
        intro j x hx
        have := hown.cells (g := g) rfl j (.int .u8 x.toNat) (by simp [hx])
        exact this
      clear hUS0
      go_enter Try.func20, Try.ntmps20
      go_wp2
      go_region
      all_goals (go_wp2; go_ret; exact ⟨rfl, grown_freeze (grown_drew w _) _⟩)

/-- What a builder's box has. -/
theorem bld_box {w : World} {K : Kinds} {y : shBld.den} (hh : HeapOk w K (enum 0 (savs [shBld] y))) {b : Nat} (hb : b < w.heap.size) (hk : K b = .box 0) :
    ∃ p v, w.heap[b]? = some (.cells #[p, v] 61 (0, 0)) ∧ (p = .pointer none ∨ p = .pointer (some ⟨b, 0, none⟩)) ∧ w.ownsRow 0 5 1 v (List.length y.2.1) (List.map (fun x : UInt8 => Value.int .u8 x.toNat) y.2.1) ∧
      (∀ g, v.ownBlock = some g → K g = .row 0 0 ∧ g < w.heap.size) ∧ ∃ A n c, v = .slice A n c := by
  obtain ⟨av, o, h1, h2, h3⟩ := hh.cells b 0 hb hk
  have e1 : av = ⟨shBld, y⟩ := by
    have : some (⟨shBld, y⟩ : AV) = some av := h1
    cases this
    rfl
  subst e1
  obtain ⟨cs, rfl, c1, c2, hcs, ⟨q, hq, hq'⟩, c3, c4, hc34, ⟨A, n, cap, hA, hA'⟩, h5⟩ := h3
  have h5' : c4 = [] := h5
  subst h5' hA hc34 hq
  have hcs' : cs = #[.pointer q, .slice A n cap] := by
    apply Array.ext'
    rw [hcs]
    rfl
  subst hcs'
  refine ⟨_, _, h2, ?_, ?_, ?_, _, _, _, rfl⟩
  · rcases hq' with rfl | ⟨b', rfl, hb1, hb2⟩
    · exact .inl rfl
    · rw [hh.uniq b' b 0 hb2 hb hb1 hk]
      exact .inr rfl
  · rcases hA' with ⟨rfl, rfl, rfl, hx⟩ | ⟨g, cur, rfl, hg1, hg2, hg3, hg4, hg5, hg6, hg7⟩
    · rw [hx]
      exact ⟨rfl, .inl ⟨rfl, rfl⟩⟩
    · subst hg3
      exact ⟨by simp, .inr ⟨g, cap, cur, rfl, Nat.zero_le _, hg2, hg4, hg5, by rw [hg6, Nat.mul_one], by rw [Nat.mul_one]; exact hg7⟩⟩
  · intro g hg
    rcases hA' with ⟨rfl, _⟩ | ⟨g', cur, rfl, hg1, hg2, _⟩
    · cases hg
    · simp only [Value.ownBlock, Option.some.injEq] at hg
      subst hg
      exact ⟨hg1, (Array.getElem?_eq_some_iff.1 hg2).1⟩

/-- Kinds when a builder has been written. -/
def newK (w : World) (K : Kinds) (v : Value) : Kinds := fun k => if k < w.heap.size then K k else if v.ownBlock = some k then .row 0 0 else .old

theorem newK_old {w : World} {K : Kinds} {v : Value} {k : Nat} (h : k < w.heap.size) : newK w K v k = K k := if_pos h
theorem newK_box {w : World} {K : Kinds} {v : Value} {k id : Nat} (h : newK w K v k = .box id) : k < w.heap.size ∧ K k = .box id := by
  unfold newK at h
  split at h
  · exact ⟨by assumption, h⟩
  · split at h <;> cases h

/-- From a world to one where all is as it was but for box 0 and the row 0. -/
theorem bld_ext {w w' : World} {K : Kinds} {b : Nat} {v u : Value} {cs cs' : Array Value} {T : TypeId} (os : w'.os = w.os) (tape : w'.tape = w.tape) (output : w'.output = w.output) (size : w.heap.size ≤ w'.heap.size)
    (hkb : K b = .box 0) (hv : ∀ g, v.ownBlock = some g → K g = .row 0 0) (hb : w.heap[b]? = some (.cells cs T (0, 0))) (hb' : w'.heap[b]? = some (.cells cs' T (0, 0))) (hsz : cs.size ≤ cs'.size)
    (hoth : ∀ k, k < w.heap.size → k ≠ b → some k ≠ v.ownBlock → w'.heap[k]? = w.heap[k]?) : Ext w K w' (newK w K u) where
  os := os
  tape := tape
  output := output
  size := size
  fix := fun k hk hf => ⟨newK_old hk, hoth k hk (fun e => by rw [e, hkb] at hf; cases hf) (fun e => by rw [hv k e.symm] at hf; cases hf)⟩
  stab := fun k o hk hs => by
    refine ⟨by unfold Stab at *; rw [newK_old hk]; exact hs, World.cell?_of_block (hoth k hk (fun e => ?_) (fun e => ?_))⟩
    · unfold Stab at hs
      rw [e, hkb] at hs
      exact hs.elim
    · unfold Stab at hs
      rw [hv k e.symm] at hs
      exact absurd hs (Nat.not_lt_zero _)
  box := fun k id hk h => by rw [newK_old hk]; exact h
  bsz := fun k id n hk h hn => by
    by_cases e : k = b
    · subst e
      obtain ⟨c, T', h1, h2⟩ := hn
      rw [hb] at h1
      cases h1
      exact ⟨_, _, hb', Nat.le_trans h2 hsz⟩
    · obtain ⟨c, T', h1, h2⟩ := hn
      exact ⟨c, T', (hoth k hk e (fun e => by rw [hv k e.symm] at h; cases h)).trans h1, h2⟩

theorem heap_one {w' : World} {w : World} {K : Kinds} {s : Sh} {y : s.den} {s' : Sh} {x' : s'.den} {b : Nat} {u : Value} {o : Obj} (hh : HeapOk w K (enum 0 (savs [s] y))) (hb : b < w.heap.size) (hkb : K b = .box 0) (hb' : w'.heap[b]? = some o) (ho : BoxOk w' (newK w K u) s' x' o) :
    HeapOk w' (newK w K u) (enum 0 (savs [s'] x')) where
  cells := fun k id hk h => by
    obtain ⟨h1, h2⟩ := newK_box h
    obtain ⟨av, o', l1, _⟩ := hh.cells k id h1 h2
    have hid : id < 0 + 1 := look_enum_lt [⟨s, y⟩] 0 id av l1
    have : id = 0 := by omega
    subst this
    have := hh.uniq k b 0 h1 hb h2 hkb
    subst this
    exact ⟨⟨s', x'⟩, o, rfl, hb', ho⟩
  uniq := fun k k' id hk hk' h h' => by
    obtain ⟨h1, h2⟩ := newK_box h
    obtain ⟨h3, h4⟩ := newK_box h'
    exact hh.uniq k k' id h1 h3 h2 h4

theorem write_body : BodyOk Try.prog 19 body_WriteString := by
  intro args h0 nx Kc r hrun w K vs hvs hh Rf hk _
  simp only [body_WriteString, bodyT] at hrun
  split at hrun
  · rename_i x y hx hy
    cases hG : G_bytesFit y.2.1 x.2 with
    | false => rw [hG] at hrun; cases hrun
    | true =>
      rw [hG] at hrun
      simp only [cond_true] at hrun
      have hho := hh.to hy
      have hrv := toAll_RVs _ args x vs hx hvs
      match vs, hrv with
      | v1 :: v2 :: vr, hrv =>
      obtain ⟨r1, r2, r3⟩ := hrv
      have hvr : vr = [] := by
        cases vr with
        | nil => rfl
        | cons _ _ => exact r3.elim
      subst hvr
      obtain ⟨b, rfl, hkb, hb⟩ := RV.box r1
      have e2 := RV.str r2
      subst e2
      obtain ⟨p, v, hbk, hp, hown, hrow, A, n, c, hvA⟩ := bld_box hho hb hkb
      have hne : v.ownBlock ≠ some b := fun e => by have := (hrow b e).1; rw [hkb] at this; cases this
      have hlen : (List.map (fun x : UInt8 => Value.int .u8 x.toNat) y.2.1).length + (⟨⟨x.2⟩⟩ : ByteArray).size ≤ 140737488355328 := by
        have := Nat.le_of_ble_eq_true (show Nat.ble (List.length y.2.1 + List.length x.2) 140737488355328 = true from hG)
        simpa [ByteArray.size] using this
      refine (write_run b p v (List.map (fun x : UInt8 => Value.int .u8 x.toNat) y.2.1) ⟨⟨x.2⟩⟩ w hbk hp (by rw [List.length_map]; exact hown) hne hlen).mono ?_
      rintro e w' ⟨⟨rr, rfl⟩, v', w1, w2, hb', hown', hoth2, hsz2, hos2, htp2, hout2, hgrow, hoth1, hsz1, hos1, htp1, hout1, hnew⟩
      have hrow' : ∀ g, v'.ownBlock = some g → newK w K v' g = .row 0 0 ∧ g ≠ b := fun g hg => by
        rcases hnew with e | e
        · obtain ⟨h1, h2⟩ := hrow g (by rw [← e]; exact hg)
          exact ⟨(newK_old h2).trans h1, fun e => by rw [e, hkb] at h1; cases h1⟩
        · have := e g hg
          refine ⟨?_, by omega⟩
          unfold newK
          rw [if_neg (by omega), if_pos hg]
      refine hk ⟨.top, ()⟩ rr _ _ w' (newK w K v') (bld_ext (by rw [hos2, hgrow.os, hos1]) (by rw [htp2, hgrow.tape, htp1]) (by rw [hout2, hgrow.output, hout1]) (by rw [hsz2, ← hsz1]; exact hgrow.size) hkb (fun g hg => (hrow g hg).1) hbk hb' (Nat.le_refl _) (fun k hk hkb hkv => ?_)) trivial
        (heap_one hho hb hkb hb' ?_) hrun
      · rw [hoth2 k hkb, hgrow.block k (by rw [hsz1]; exact hk) hkv, hoth1 k hkb]
      · refine ⟨_, rfl, [_], [_], rfl, ⟨_, rfl, .inr ⟨b, rfl, (newK_old hb).trans hkb, by rw [hsz2]; exact Nat.lt_of_lt_of_le (by rw [hsz1]; exact hb) hgrow.size⟩⟩, [_], [], rfl, ?_, rfl⟩
        have hm : List.map (fun x : UInt8 => Value.int .u8 x.toNat) y.2.1 ++ Lib.strCells ⟨⟨x.2⟩⟩ = List.map (fun x : UInt8 => Value.int .u8 x.toNat) (y.2.1 ++ x.2) := by
          simp [Lib.strCells]
        rw [hm, List.length_map] at hown'
        have hl : List.length y.2.1 + (⟨⟨x.2⟩⟩ : ByteArray).size = List.length (y.2.1 ++ x.2) := by simp [ByteArray.size]
        rw [hl] at hown'
        rcases hown'.2 with ⟨rfl, hz⟩ | ⟨g, cap, cur, rfl, _, hg, hnc, hcm, hcs, htake⟩
        · exact ⟨_, _, _, rfl, .inl ⟨rfl, rfl, rfl, List.eq_nil_of_length_eq_zero hz⟩⟩
        · obtain ⟨q1, q2⟩ := hrow' g rfl
          exact ⟨_, _, _, rfl, .inr ⟨g, cur, rfl, q1, (hoth2 g q2).trans hg, rfl, hnc, hcm, by simpa using hcs, by simpa [V_bytesJoin] using htake⟩⟩
  · cases hrun

theorem string_body : BodyOk Try.prog 20 body_String := by
  intro args h0 nx Kc r hrun w K vs hvs hh Rf hk _
  simp only [body_String, bodyT] at hrun
  split at hrun
  · rename_i x y hx hy
    simp only [cond_true] at hrun
    have hho := hh.to hy
    have hrv := toAll_RVs _ args x vs hx hvs
    match vs, hrv with
    | v1 :: vr, hrv =>
    obtain ⟨r1, r3⟩ := hrv
    have hvr : vr = [] := by
      cases vr with
      | nil => rfl
      | cons _ _ => exact r3.elim
    subst hvr
    obtain ⟨b, rfl, hkb, hb⟩ := RV.box r1
    obtain ⟨p, v, hbk, hp, hown, hrow, A, n, c, hvA⟩ := bld_box hho hb hkb
    have hne : some b ≠ v.ownBlock := fun e => by have := (hrow b e.symm).1; rw [hkb] at this; cases this
    refine (string_run b p v y.2.1 w hbk hown).mono ?_
    rintro e w' ⟨rfl, hgrow⟩
    have hb' : w'.heap[b]? = _ := (hgrow.block b hb hne).trans hbk
    refine hk ⟨.ty .str, y.2.1⟩ _ _ _ w' (newK w K (.bool true)) (bld_ext hgrow.os hgrow.tape hgrow.output hgrow.size hkb (fun g hg => (hrow g hg).1) hbk hb' (Nat.le_refl _) (fun k hk _ hkv => hgrow.block k hk hkv)) ⟨rfl, ⟨(fun h => by cases h), (fun _ c h => by cases h)⟩⟩
      (heap_one hho hb hkb hb' ?_) hrun
    subst hvA
    rcases hp with rfl | rfl
    · exact ⟨_, rfl, [_], [_], rfl, ⟨_, rfl, .inl rfl⟩, [_], [], rfl, ⟨_, rfl, rfl⟩, rfl⟩
    · exact ⟨_, rfl, [_], [_], rfl, ⟨_, rfl, .inr ⟨b, rfl, (newK_old hb).trans hkb, Nat.lt_of_lt_of_le hb hgrow.size⟩⟩, [_], [], rfl, ⟨_, rfl, rfl⟩, rfl⟩
  · cases hrun
end Go.Proofs.Ytehcaooipfgklaa
