/- Append, by the abstract values. -/
import Derived.Test.YtbfhpnnnfjjjnaaAvOpOk
namespace Go.Av
open Go

section
variable {P : Program} {fr : Fr} {n : Nat} {K : Kinds} {s : St} {a : Act} {w : World} {o : Oper}

theorem run_append_row (t ty e : TypeId) (i : TypeInfo) (ht : P.underlying t = some (.slice e)) (hi : P.info? e = some i)
    (g off sLen sCap : Nat) (cur : Array Value) (T : TypeId) (hg : w.heap[g]? = some (.cells cur T (0, 0)))
    (ad : Addr) (m c : Nat) (news : List Value) (hl : news.length = m * i.size) (hnews : ∀ j u, news[j]? = some u → w.cell? (ad.add j) = some u) (h1 : ∀ u ∈ news, u.oneCell' = true)
    (hroom : sLen + m ≤ sCap) (hfit : off + sLen * i.size + news.length ≤ cur.size) :
    (Builtin.append_ #[t, t] ty #[.slice (some ⟨g, off, none⟩) sLen sCap, .slice (some ad) m c]).run P w =
      .ok (.slice (some ⟨g, off, none⟩) (sLen + m) sCap) (w.setRow g (cur.toList.take (off + sLen * i.size) ++ news ++ cur.toList.drop (off + sLen * i.size + news.length)).toArray) := by
  have hf := run_firstCells_some (P := P) w i.size m ad m c news hl hnews
  have hst := run_storeCells_at P g (off + sLen * i.size) T news 0 cur w hg (by simpa using hfit) h1
  simp only [Nat.add_zero] at hst
  simp [Builtin.append_, run_underlying ht, sizeOf, typeInfo, hi, Builtin.lenOf, hroom, hf, Addr.add_lit, hst]

/-- Nothing is appended. -/
theorem run_append_nothing (t ty e : TypeId) (i : TypeInfo) (ht : P.underlying t = some (.slice e)) (hi : P.info? e = some i) (A B : Option Addr) (sLen sCap c : Nat) (h : sLen ≤ sCap) :
    (Builtin.append_ #[t, t] ty #[.slice A sLen sCap, .slice B 0 c]).run P w = .ok (.slice A sLen sCap) w := by
  have hf : (Builtin.firstCells i.size 0 (.slice B 0 c)).run P w = .ok #[] w := by
    cases B <;> simp [Builtin.firstCells, loadCells, loadCellsFrom]
  cases A <;> simp [Builtin.append_, run_underlying ht, sizeOf, typeInfo, hi, Builtin.lenOf, h, hf, storeCells]

theorem append_ok (hr : Rel fr n K s a w) {d : Option Nat} (hd : ∀ t, d = some t → t < n) {t ty e : TypeId} {i : TypeInfo} (ht : P.underlying t = some (.slice e)) (hi : P.info? e = some i) {τ : Ty} {id : Nat} {xs ys : List τ.den}
    (hsz : i.size = τ.size) (hby : 0 < i.bytes) (hz : (i.zero.map fun z => z.cells.size) = some τ.size) (hfits : (xs.length + ys.length) * i.bytes ≤ 140737488355328)
    {u v : Value} (hu : RV w K ⟨.osl id τ, xs⟩ u) (hvm : v = mkV false v.cells.toList) (hv : RT w K (.sl τ) ys v.cells.toList) :
    ∃ r w' K', (Builtin.append_ #[t, t] ty #[u, v]).run P w = .ok r w' ∧ Rel fr n K' (s.apply d (.app id ⟨.osl id τ, xs ++ ys⟩)) (a.put d r) w' := by
  obtain ⟨A, sLen, sCap, rfl, hx, hown⟩ := RV.osl hu
  obtain ⟨A', len', cap', he, x1, x2, x3, x4⟩ := hx
  injection he with he _
  injection he with q1 q2 q3
  subst q1 q2 q3
  obtain ⟨B, m, c, hvc, y1, y2, y3, y4⟩ := hv
  have hv : v = .slice B m c := by rw [hvm, hvc]; rfl
  subst hv
  obtain ⟨z, hz0, hz1⟩ := Option.map_eq_some_iff.1 hz
  have hneed : sLen + m ≤ 140737488355328 := by
    have : (sLen + m) * 1 ≤ (sLen + m) * i.bytes := Nat.mul_le_mul_left _ hby
    rw [x1, y1] at this ⊢
    omega
  -- what is appended
  by_cases hm : m = 0
  · subst hm
    have hys : ys = [] := List.length_eq_zero_iff.1 y1.symm
    subst hys
    refine ⟨_, w, K, run_append_nothing t ty e i ht hi _ _ _ _ _ x2, hr.app hd (Ext.refl w K) (fun _ _ _ _ _ h => ⟨h, rfl⟩) (fun _ _ _ _ => rfl) (fun _ h _ h' => ⟨h, h'⟩) ?_⟩
    rw [List.append_nil]
    exact hu
  · cases B with
    | none => have := y3 rfl; omega
    | some ad =>
      obtain ⟨cy, cy1, cy2⟩ := y4 ad rfl
      have hcl : cy.length = m * i.size := by rw [RL.length (RT.length τ) ys cy cy1, y1, hsz]
      have hcc : ∀ j u, cy[j]? = some u → w.cell? (ad.add j) = some u := fun j u hj => cy2.cell j u hj
      have hone := RL.one (RT.one τ) ys cy cy1
      by_cases hroom : sLen + m ≤ sCap
      · -- in place
        rcases hown with h | h | ⟨b, hb, hsp, hk, arr, T, hh, hle⟩
        · have := x3 h; omega
        · omega
        · subst hb
          obtain ⟨blk, off, sp⟩ := b
          simp only at hsp
          subst hsp
          simp only at hk hh hle
          have hlt : blk < w.heap.size := by
            rcases Nat.lt_or_ge blk w.heap.size with h' | h'
            · exact h'
            · rw [Array.getElem?_eq_none h'] at hh; cases hh
          have hfit : off + sLen * i.size + cy.length ≤ arr.size := by
            rw [hcl, hsz, Nat.add_assoc, ← Nat.add_mul]
            have := Nat.mul_le_mul_right τ.size hroom
            omega
          have hrun := run_append_row (P := P) t ty e i ht hi blk off sLen sCap arr T hh ad m c cy hcl hcc hone hroom hfit
          generalize hnew : (arr.toList.take (off + sLen * i.size) ++ cy ++ arr.toList.drop (off + sLen * i.size + cy.length)).toArray = arr' at hrun
          have hpre : ∀ j, j < off + sLen * τ.size → arr'[j]? = arr[j]? := fun j hj => by
            rw [← hsz] at hj
            rw [← hnew, List.getElem?_toArray, List.append_assoc, List.getElem?_append_left (by rw [List.length_take]; have := @Array.length_toList _ arr; omega), List.getElem?_take, if_pos hj]
            simp
          have hin : ∀ j v, cy[j]? = some v → arr'[off + sLen * τ.size + j]? = some v := fun j v hj => by
            have hjl : j < cy.length := (List.getElem?_eq_some_iff.1 hj).1
            rw [← hnew, ← hsz, List.getElem?_toArray, List.append_assoc, List.getElem?_append_right (by rw [List.length_take]; have := @Array.length_toList _ arr; omega)]
            rw [List.length_take, Nat.min_eq_left (by have := @Array.length_toList _ arr; omega), Nat.add_sub_cancel_left, List.getElem?_append_left hjl]
            exact hj
          have hsize : arr'.size = arr.size := by
            rw [← hnew]
            simp only [List.size_toArray, List.length_append, List.length_take, List.length_drop, Array.length_toList]
            omega
          have hheap : (w.setRow blk arr').heap[blk]? = some (.cells arr' T (0, 0)) := setRow_heap w blk arr arr' T (0, 0) hh
          have hoth : ∀ x, x ≠ blk → (w.setRow blk arr').heap[x]? = w.heap[x]? := fun x hx => setRow_other w blk x arr' hx
          have hext : Ext w K (w.setRow blk arr') (setK K blk (.row id (off + (sLen + m) * τ.size))) := {
            os := rfl
            tape := rfl
            output := rfl
            size := Nat.le_of_eq (setRow_size w blk arr').symm
            fix := fun x _ hkx => by
              have hne : x ≠ blk := fun e => by subst e; rw [hk] at hkx; cases hkx
              exact ⟨setK_other _ _ hne, hoth x hne⟩
            stab := fun x o' _ hs => by
              by_cases hne : x = blk
              · subst hne
                unfold Stab at hs ⊢
                rw [hk] at hs
                rw [setK_same]
                replace hs : o' < off + sLen * τ.size := hs
                refine ⟨?_, ?_⟩
                · show o' < off + (sLen + m) * τ.size
                  rw [Nat.add_mul]; omega
                · simp only [World.cell?, hheap, hh, Option.isSome_none, Bool.false_eq_true, if_false]
                  exact hpre o' hs
              · refine ⟨?_, World.cell?_of_block (a := ⟨x, o', none⟩) (hoth x hne)⟩
                unfold Stab at hs ⊢
                rw [setK_other _ _ hne]
                exact hs
            box := fun x id' _ hkx => by
              have hne : x ≠ blk := fun e => by subst e; rw [hk] at hkx; cases hkx
              rw [setK_other _ _ hne]; exact hkx
            frz := fun ad => frozen_row hheap hh hoth ad }
          refine ⟨_, _, setK K blk (.row id (off + (sLen + m) * τ.size)), hrun, hr.app hd hext ?_ ?_ ?_ ?_⟩
          · intro x id' u hne _ hkx
            have hne' : x ≠ blk := fun e => by subst e; rw [hk] at hkx; injection hkx with h1; exact hne h1.symm
            exact ⟨by rw [setK_other _ _ hne']; exact hkx, hoth x hne'⟩
          · intro x id' _ hkx
            exact hoth x (fun e => by subst e; rw [hk] at hkx; cases hkx)
          · intro x hx id' hkx
            rw [setRow_size] at hx
            have hne : x ≠ blk := fun e => by subst e; rw [setK_same] at hkx; cases hkx
            rw [setK_other _ _ hne] at hkx
            exact ⟨hx, hkx⟩
          · obtain ⟨cx, cx1, cx2⟩ := x4 _ rfl
            refine ⟨⟨⟨some ⟨blk, off, none⟩, sLen + m, sCap, rfl, by rw [List.length_append, ← x1, ← y1], hroom, (fun h => by cases h), fun ad' had => ?_⟩, fun A2 l2 c2 hc2 => ?_⟩, (fun e => (by cases e)), (fun _ c e => (by cases e))⟩
            · cases had
              have g := hext.stab
              refine ⟨cx ++ cy, RL.append (RL.imp (RT.ext g τ) xs cx cx1) (RL.imp (RT.ext g τ) ys cy cy1), ?_⟩
              have hcxl : cx.length = sLen * τ.size := by rw [RL.length (RT.length τ) xs cx cx1, x1]
              intro j v hj
              by_cases hlt' : j < cx.length
              · rw [List.getElem?_append_left hlt'] at hj
                exact (cx2.ext g) j v hj
              · rw [List.getElem?_append_right (by omega)] at hj
                have hjl : j - cx.length < cy.length := (List.getElem?_eq_some_iff.1 hj).1
                have := hin _ _ hj
                refine ⟨rfl, ?_, ?_⟩
                · simp only [World.cell?, hheap, Option.isSome_none, Bool.false_eq_true, if_false]
                  rw [← this]
                  congr 1
                  omega
                · unfold Stab
                  rw [setK_same]
                  show off + j < off + (sLen + m) * τ.size
                  rw [Nat.add_mul]
                  rw [hsz] at hcl
                  omega
            · injection hc2 with hc2 _
              injection hc2 with q1 q2 q3
              subst q1 q2 q3
              exact .inr (.inr ⟨_, rfl, rfl, setK_same _ _ _, arr', T, hheap, by rw [hsize]; exact hle⟩)
      · -- a new row
        have hgrow : sCap < sLen + m := by omega
        have h48 := growslice_fits (bytes := i.bytes) hgrow (by rw [x1, y1]; exact hfits)
        have grown : ∀ cx : List Value, RL (RT w K τ) xs cx → ∀ (rest : Array Value), rest.size = (grownCap w (sLen + m) sCap e - (sLen + m)) * τ.size →
            (Builtin.append_ #[t, t] ty #[.slice A sLen sCap, .slice (some ad) m c]).run P w = .ok (.slice (some ⟨w.heap.size, 0, none⟩) (sLen + m) (grownCap w (sLen + m) sCap e)) (w.drew.alloc (.cells ((cx ++ cy).toArray ++ rest) e)) →
            ∃ r w' K', (Builtin.append_ #[t, t] ty #[.slice A sLen sCap, .slice (some ad) m c]).run P w = .ok r w' ∧ Rel fr n K' (s.apply d (.app id ⟨.osl id τ, xs ++ ys⟩)) (a.put d r) w' := by
          intro cx cx1 rest hrest hrun
          have hst : Still w K (w.drew.alloc (.cells ((cx ++ cy).toArray ++ rest) e)) (setK K w.heap.size (.row id ((sLen + m) * τ.size))) := Still.alloc w K _ _ _ _ 1
          have hcxl : cx.length = sLen * τ.size := by rw [RL.length (RT.length τ) xs cx cx1, x1]
          have hlen : (cx ++ cy).length = (sLen + m) * τ.size := by rw [List.length_append, hcxl, hcl, hsz, Nat.add_mul]
          refine ⟨_, _, _, hrun, hr.app hd hst.ext (fun b id' u _ hb hkb => hst.rows b id' u hb hkb) hst.boxes hst.fresh ?_⟩
          have hge := grownCap_ge w (sLen + m) sCap e
          refine ⟨⟨⟨some ⟨w.heap.size, 0, none⟩, sLen + m, _, rfl, by rw [List.length_append, ← x1, ← y1], hge, (fun h => by cases h), fun ad' had => ?_⟩, fun A2 l2 c2 hc2 => ?_⟩, (fun e => (by cases e)), (fun _ c e => (by cases e))⟩
          · cases had
            refine ⟨cx ++ cy, RL.append (RL.imp (RT.ext hst.ext.stab τ) xs cx cx1) (RL.imp (RT.ext hst.ext.stab τ) ys cy cy1), ?_⟩
            exact At.new w K (cx ++ cy) rest e (0, 0) id _ 1 (by rw [hlen]; exact Nat.le_refl _)
          · injection hc2 with hc2 _
            injection hc2 with q1 q2 q3
            subst q1 q2 q3
            refine .inr (.inr ⟨_, rfl, rfl, ?_, _, e, heap_new w.drew _, ?_⟩)
            · show setK K w.heap.size _ w.heap.size = _
              rw [setK_same, Nat.zero_add]
            · show 0 + grownCap w (sLen + m) sCap e * τ.size ≤ ((cx ++ cy).toArray ++ rest).size
              rw [Array.size_append, show (cx ++ cy).toArray.size = (sLen + m) * τ.size by rw [← hlen]; simp, hrest, Nat.zero_add, ← Nat.add_mul]
              apply Nat.le_of_eq
              congr 1
              omega
        have hzs : ∀ k, (Builtin.zeroCells z.cells k).size = k * τ.size := fun k => by rw [size_zeroCells, hz1]
        cases A with
        | none =>
          have h0 := x3 rfl
          subst h0
          have h1 : sLen = 0 := by omega
          subst h1
          have hxs : xs = [] := List.length_eq_zero_iff.1 x1.symm
          subst hxs
          have hrun := run_append_nil (P := P) w t ty e i z ht hi hz0 ad m c cy hcl hcc (by omega) (by omega) (by have := hfits; simp only [List.length_nil, Nat.zero_add] at this; rw [y1]; omega)
          refine grown [] rfl (Builtin.zeroCells z.cells (grownCap w (0 + m) 0 e - (0 + m))) (hzs _) ?_
          simp only [Nat.zero_add, List.nil_append]
          exact hrun
        | some b =>
          obtain ⟨cx, cx1, cx2⟩ := x4 b rfl
          have hcxl : cx.length = sLen * i.size := by rw [RL.length (RT.length τ) xs cx cx1, x1, hsz]
          have hrun := run_append_grow (P := P) w t ty e i z ht hi hz0 b sLen sCap cx hcxl (fun j v hj => cx2.cell j v hj) ad m c cy hcl hcc hgrow (by omega) h48
          refine grown cx cx1 (Builtin.zeroCells z.cells (grownCap w (sLen + m) sCap e - (sLen + m))) (hzs _) ?_
          rw [hrun]
          simp
end
end Go.Av
