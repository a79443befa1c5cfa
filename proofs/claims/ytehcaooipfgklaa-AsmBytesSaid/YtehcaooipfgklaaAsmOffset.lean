/- (*asm.assembler).offset: what it tells of a snapshot of the assembler. -/
import Derived.WalkKit
import Derived.WalkSpells
import Derived.WalkLawsBesides
import Derived.Deep.QuietTactic
import Derived.BigQuiet
import Derived.Test.YtehcaooipfgklaaPAsmOff
import Derived.Test.YtehcaooipfgklaaAvBody
import Derived.Test.YtehcaooipfgklaaProg
namespace Go.Proofs.Ytehcaooipfgklaa
open Go Go.RowKit Go.Av Go.Proofs

set_option maxRecDepth 100000 in
set_option maxHeartbeats 4000000 in
theorem offset_run (b mb g g2 n cap n2 cap2 o o2 : Nat) (i j lab x y : Int) (w : World)
    (c0 : w.cell? ⟨b, 0, none⟩ = some (.slice (some ⟨g, o, none⟩) n cap)) (c2 : w.cell? ⟨b, 2, none⟩ = some (.map (some mb)))
    (ci : w.cell? ⟨g, o + i.toNat * 10 + 1, none⟩ = some (.int .i64 lab)) (hi : 0 ≤ i ∧ i < (n : Int))
    (hl : ∀ m : Nat, (Instr.lookup 54 (.map (some mb)) (.int .i64 lab) false).run Try.prog (w.drewN m) = .ok (.int .i64 j) (w.drewN m))
    (hj : 0 ≤ j ∧ j < (n2 : Int)) (hi2 : 0 ≤ i ∧ i < (n2 : Int)) (cj : w.cell? ⟨g2, o2 + j.toNat, none⟩ = some (.int .i64 x)) (ck : w.cell? ⟨g2, o2 + i.toNat, none⟩ = some (.int .i64 y)) :
    Calls Try.prog 17 #[.pointer (some ⟨b, 0, none⟩), .slice (some ⟨g2, o2, none⟩) n2 cap2, .int .i64 i] w fun e w' => e = .returned (.int .i64 (wrap64 (wrap64 (x - y) - 4))) ∧ ∃ m, w' = w.drewN m := by
  go_enter Try.func17, Try.ntmps17
  go_wp2
  go_quiet (fail)
  go_wp2
  go_ret
  exact ⟨rfl, _, rfl⟩

theorem drew_ext (w : World) (K : Kinds) (m : Nat) : Ext w K (w.drewN m) K :=
  ⟨rfl, rfl, rfl, Nat.le_refl _, fun _ _ _ => ⟨rfl, rfl⟩, fun _ _ _ h => ⟨h, rfl⟩, fun _ _ _ h => h, fun _ _ _ _ _ h => h⟩

/-- A label, where an item lies. -/
theorem label_at {w : World} {K : Kinds} : ∀ (it : List tItem.den) (cc : List Value) (i : Nat), RL (RT w K tItem) it cc → i < it.length → cc[i * 10 + 1]? = some (.int .i64 (it.getD i (Ty.dflt tItem)).2.1)
  | [], _, _, _, h => absurd h (Nat.not_lt_zero _)
  | x :: it, _, 0, ⟨_, _, rfl, h1, _⟩, _ => by
    obtain ⟨d1, d2, rfl, e1, e2⟩ := h1
    obtain ⟨d3, d4, rfl, e3, _⟩ := e2
    have e1' : d1 = [.int .i64 x.1] := e1
    have e3' : d3 = [.int .i64 x.2.1] := e3
    subst e1' e3'
    rfl
  | x :: it, _, i + 1, ⟨c1, c2, rfl, h1, h2⟩, h => by
    have hl : c1.length = 10 := RT.length tItem x c1 h1
    have := label_at it c2 i h2 (by simpa using h)
    rw [show (i + 1) * 10 + 1 = 10 + (i * 10 + 1) by omega, List.getElem?_append_right (by omega), hl, show 10 + (i * 10 + 1) - 10 = i * 10 + 1 by omega, this]
    rfl

theorem int_at {w : World} {K : Kinds} : ∀ (l : List Int) (cc : List Value) (i : Nat), RL (RT w K (.int .i64)) l cc → i < l.length → cc[i]? = some (.int .i64 (l.getD i 0))
  | [], _, _, _, h => absurd h (Nat.not_lt_zero _)
  | x :: l, _, 0, ⟨_, _, rfl, h1, _⟩, _ => by
    rw [show _ = [Value.int .i64 x] from h1]
    rfl
  | x :: l, _, i + 1, ⟨c1, c2, rfl, h1, h2⟩, h => by
    have e : c1 = [Value.int .i64 x] := h1
    subst e
    exact int_at l c2 i h2 (by simpa using h)

theorem inRange_facts {i : Int} {n : Nat} (h : inRange i n = true) : 0 ≤ i ∧ i < (n : Int) := by
  unfold inRange at h
  simpa using h

theorem offset_plain : PlainOk Try.prog 17 snap_asm_assembler_offset := by
  intro args v h w K vs hvs _
  unfold snap_asm_assembler_offset at h
  split at h
  · match vs, hvs with
    | u :: vs, hvs =>
      obtain ⟨ts, _, ht⟩ := hvs.1
      exact ht.elim
  · cases h

theorem offset_snap : SnapOk Try.prog 17 snap_asm_assembler_offset := by
  intro sl en rest v h w K p vs hat hvs hfix
  unfold snap_asm_assembler_offset at h
  split at h
  · rename_i l a0 e it en' at_ i heq
    simp only [List.cons.injEq] at heq
    obtain ⟨_, rfl, rfl, rfl⟩ := heq
    split at h
    · rename_i he _
      subst he
      simp only [Option.some.injEq, Prod.mk.injEq] at h
      obtain ⟨hg, rfl⟩ := h
      obtain ⟨b, cs, T, c0, c1, mb, cr, ob, rfl, hb, hcs, h0, hm, hmo⟩ := hat
      match vs, hvs with
      | va :: vi :: vr, hvs =>
      obtain ⟨hva, hvi, hvr⟩ := hvs
      have hvr' : vr = [] := by
        cases vr with
        | nil => rfl
        | cons _ _ => exact hvr.elim
      subst hvr'
      have evi : vi = .int .i64 i := RV.int hvi
      subst evi
      obtain ⟨A2, len2, cap2, rfl, A3, len3, cap3, e3, x1, x2, x3, x4⟩ := RV.sl hva
      simp only [List.cons.injEq, and_true, Value.slice.injEq] at e3
      obtain ⟨rfl, rfl, rfl⟩ := e3
      obtain ⟨A, len, cap, hc0, y1, y2, y3, y4⟩ := h0
      simp only [List.cons.injEq, and_true] at hc0
      subst hc0
      obtain ⟨es, mc, rfl, hmis⟩ := hmo
      unfold G_asm_assembler_offset at hg
      simp only [Bool.and_eq_true] at hg
      obtain ⟨g1, g2, g3⟩ := hg
      have i1 := inRange_facts g1
      have i2 := inRange_facts g2
      have i3 := inRange_facts g3
      have hlen : 0 < len := by
        have : (0 : Int) < (List.length it : Int) := by omega
        have e1 : len = List.length it := y1
        omega
      have hlen2 : 0 < len2 := by
        have : (0 : Int) < (List.length at_ : Int) := by omega
        have e1 : len2 = List.length at_ := x1
        omega
      obtain ⟨a, rfl⟩ : ∃ a, A = some a := by
        cases A with
        | none => have := y3 rfl; omega
        | some a => exact ⟨a, rfl⟩
      obtain ⟨a2, rfl⟩ : ∃ a, A2 = some a := by
        cases A2 with
        | none => have := x3 rfl; omega
        | some a => exact ⟨a, rfl⟩
      obtain ⟨cc, q1, q2⟩ := y4 a rfl
      obtain ⟨cc2, p1, p2⟩ := x4 a2 rfl
      have t1 := label_at it cc i.toNat q1 (by omega)
      have t2 := int_at at_ cc2 (mval en' (it.getD i.toNat (Ty.dflt tItem)).2.1).toNat p1 (by omega)
      have t3 := int_at at_ cc2 i.toNat p1 (by omega)
      obtain ⟨s1, s2, _⟩ := q2 _ _ t1
      obtain ⟨s3, s4, _⟩ := p2 _ _ t2
      obtain ⟨_, s5, _⟩ := p2 _ _ t3
      obtain ⟨ab, ao, asp⟩ := a
      obtain ⟨ab2, ao2, asp2⟩ := a2
      have s1' : asp = none := s1
      have s3' : asp2 = none := s3
      subst s1' s3'
      have hcell : ∀ k, w.cell? ⟨b, k, none⟩ = cs[k]? := fun k => by
        simp [World.cell?, hb]
      have hk : ∀ k : Nat, cs[k]? = cs.toList[k]? := fun k => by simp
      have hml : ∀ m : Nat, (Instr.lookup 54 (.map (some mb)) (.int .i64 (it.getD i.toNat (Ty.dflt tItem)).2.1) false).run Try.prog (w.drewN m) = .ok (.int .i64 (mval en' (it.getD i.toNat (Ty.dflt tItem)).2.1)) (w.drewN m) := fun m =>
        run_lookup (w := w.drewN m) (t := 54) (by kernel_rfl) hm hmis _ false
      refine (offset_run b mb ab ab2 len cap len2 cap2 ao ao2 i _ _ _ _ w (by rw [hcell, hk, hcs]; rfl) (by rw [hcell, hk, hcs]; rfl) s2 ⟨i1.1, by rw [y1]; exact i1.2⟩ hml ⟨i2.1, by rw [x1]; exact i2.2⟩ ⟨i3.1, by rw [x1]; exact i3.2⟩ s4 s5).mono ?_
      rintro e w' ⟨rfl, m, rfl⟩
      refine ⟨_, K, rfl, drew_ext w K m, fun b' id hb' hk' => ?_, RV.scalar (av := .int .i64 _) ?_ rfl rfl⟩
      rotate_left
      · show [Value.int .i64 _] = [Value.int .i64 _]
        unfold V_asm_assembler_offset
        simp only [IntKind.wrap_i64, wrap64]
      have := hfix b' hb'
      rw [hk'] at this
      cases this
    · cases h
  · cases h
end Go.Proofs.Ytehcaooipfgklaa
