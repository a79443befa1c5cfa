/- campaign.At: what it leaves, by the laws of a range over a function. -/
import Derived.RangeFuncNested
import Derived.RangeFuncBound
import Derived.RangeFuncCalls
import Derived.RangeFuncLeaves
import Derived.RangeFuncBox
import Derived.Shelf.Abstract
import Derived.Shelf.RegionOpen
import Derived.WalkKit
import Derived.OwnWalkIn
import Derived.TacticsInMore
import Derived.LoopNIn
import Derived.LoopIn
import Derived.Maps.AppendAt
import Derived.Test.YtfdnniopghcngaaPRange
import Derived.Test.YtfdnniopghcngaaPCampAt
import Derived.Test.YtfdnniopghcngaaProg
namespace Go.Proofs.Ytfdnniopghcngaa
open Go Go.RowKit Go.Shelf Go.Av Go.Proofs
attribute [local go_sem] Oper.semAt_some

abbrev fltV (i : tFault.den) : Value := .agg #[.int .i64 i.1, .int .i64 i.2.1, .int .i64 i.2.2.1, .int .i64 i.2.2.2.1]
def fltC (i : tFault.den) : List Value := [.int .i64 i.1, .int .i64 i.2.1, .int .i64 i.2.2.1, .int .i64 i.2.2.2.1]

theorem infoFlt : (Try.prog.info? 41).map (fun i => (i.zero, i.size, i.bytes)) = some (some (.agg #[.int .i64 0, .int .i64 0, .int .i64 0, .int .i64 0]), 4, 32) := by kernel_rfl

set_option maxRecDepth 100000 in
set_option maxHeartbeats 8000000 in
/-- The function that is ranged over. -/
theorem at1_in (k : Int) (bk l : Nat) (J : List tFault.den → World → Prop)
    (hbox : ∀ d W, J d W → Boxed W bk 3 (.int .i64 k))
    (hY : ∀ d W x, J d W → d.length < 485 → YieldAt Fence.wide 2 Try.prog l #[fltV x] W fun e W' => e = .returned (.bool true) ∧ J (d ++ [x]) W')
    (W : World) (h0 : J [] W) :
    CallsIn Fence.wide 3 Try.prog 105 #[.func (.yield l) #[] #[], .pointer (some ⟨bk, 0, none⟩)] W fun e W' => (∃ v, e = .returned v) ∧ J (atL k) W' := by
  refine callsIn_of_wp Try.func105 rfl trivial ?_ rfl
  simp only [Try.ntmps105, List.size_toArray, List.length_cons, List.length_nil, Nat.reduceAdd, Nat.reduceSub, Array.replicate_succ, Array.replicate_zero, List.push_toArray, List.append_toArray, List.nil_append, List.cons_append]
  have hc := (hbox _ _ h0).cell
  obtain ⟨fn, tmps, assign, body, hy, hR⟩ := hY [] W (skipF k) h0 (by decide)
  simp only [skipF] at hy
  gi_wp2
  refine hR.mono ?_
  rintro e W1 ⟨rfl, hJ1⟩
  gi_wp2
  gi_loopw [11] (fun p wr => ∃ r : Nat, p = .int .i64 r ∧ r ≤ 15 ∧ J ([skipF k] ++ rowsTo k r) wr) (fun p _ => 15 - (intOf p).toNat)
  case atStart => exact ⟨0, rfl, by omega, hJ1⟩
  case round =>
    obtain ⟨r, rfl, hr, hJr⟩ := hrel
    by_cases hlt : r < 15
    · have hri : (r : Int) < 15 := by omega
      gi_wp2
      gi_loopw [14] (fun p wr => ∃ b : Nat, p = .int .i64 b ∧ b ≤ 32 ∧ J ([skipF k] ++ rowsTo k r ++ flipsTo k r b) wr) (fun p _ => 32 - (intOf p).toNat)
      case atStart => exact ⟨0, rfl, by omega, by simpa [flipsTo] using hJr⟩
      case round =>
        obtain ⟨b, rfl, hb, hJb⟩ := hrel
        have hcb := (hbox _ _ hJb).cell
        by_cases hbt : b < 32
        · have hbi : (b : Int) < 32 := by omega
          obtain ⟨fn, tmps, assign, body, hy, hR⟩ := hY _ wr (flipF k r b) hJb (by rw [List.length_append, List.length_append, rowsTo_len, flipsTo_len, List.length_singleton]; omega)
          simp only [flipF] at hy
          gi_wp2
          refine hR.mono ?_
          rintro e W2 ⟨rfl, hJ2⟩
          gi_wp2
          refine ⟨⟨b + 1, by simp, by omega, by rw [flipsTo_succ, ← List.append_assoc]; exact hJ2⟩, by simp [intOf]; omega⟩
        · have hbe : b = 32 := by omega
          subst hbe
          gi_wp2
          refine ⟨⟨r + 1, by simp, by omega, by rw [rowsTo_succ, ← List.append_assoc]; exact hJb⟩, by simp [intOf]; omega⟩
    · have hre : r = 15 := by omega
      subst hre
      rw [show ((15 : Nat) : Int) = (15 : Int) from rfl]
      gi_wp2
      gi_loopw [26] (fun p wr => ∃ b : Nat, p = .int .i64 b ∧ b ≤ 4 ∧ J ([skipF k] ++ rowsTo k 15 ++ flagsTo k b) wr) (fun p _ => 4 - (intOf p).toNat)
      case atStart => exact ⟨0, rfl, by omega, by simpa [flagsTo] using hJr⟩
      case round =>
        obtain ⟨b, rfl, hb, hJb⟩ := hrel
        have hcb := (hbox _ _ hJb).cell
        by_cases hbt : b < 4
        · have hbi : (b : Int) < 4 := by omega
          obtain ⟨fn, tmps, assign, body, hy, hR⟩ := hY _ wr (flagF k b) hJb (by rw [List.length_append, List.length_append, rowsTo_len, flagsTo_len, List.length_singleton]; omega)
          simp only [flagF] at hy
          gi_wp2
          refine hR.mono ?_
          rintro e W2 ⟨rfl, hJ2⟩
          gi_wp2
          go_roundw
          case rel => exact ⟨b + 1, by simp, by omega, by rw [flagsTo_succ, ← List.append_assoc]; exact hJ2⟩
          case measure => simp [intOf]; omega
        · have hbe : b = 4 := by omega
          subst hbe
          gi_wp2
          go_end0
          exact ⟨⟨_, rfl⟩, hJb⟩


theorem cells_new (w : World) (cs : Array Value) (t : TypeId) (l : List Value) (hl : l = cs.toList) : ∀ j u, l[j]? = some u → (w.alloc (.cells cs t)).cell? ((⟨w.heap.size, 0, none⟩ : Addr).add j) = some u := by
  intro j u hj
  subst hl
  rw [add_eq rfl]
  simp only [World.cell?, World.alloc_heap_new]
  simpa using hj

/-- What the caller has between two rounds. -/
structure MidF (w : World) (D : Nat) (rc : LoopState → Option Code → Go.Loop) (st : LoopState) (pe : Option Code) (k : Int) (d : List tFault.den) (W : World) : Prop where
  b4 : ∃ v, Boxed W w.heap.size 38 v ∧ W.ownsRow w.heap.size 41 4 v d.length (d.flatMap fltC)
  bk : Boxed W (w.heap.size + 1) 3 (.int .i64 k)
  below : Below w.heap.size w W
  frz : ∀ a, W.frozen? a = w.frozen? a
  dfr : W.heap[D]? = some (.deferred (some []))
  lp : W.heap[D + 1]? = some (.loop (rc st pe))

theorem grown_below {W W' : World} (h : Below W.heap.size W W') : W.grownBy W' none := ⟨h.os, h.tape, h.output, h.size, fun k hk _ => h.block k hk⟩
theorem lt_of_get {W : World} {k : Nat} {o : Obj} (h : W.heap[k]? = some o) : k < W.heap.size := (Array.getElem?_eq_some_iff.1 h).1

theorem MidF.below' {w : World} {D : Nat} {rc : LoopState → Option Code → Go.Loop} {st : LoopState} {pe : Option Code} {k : Int} {d : List tFault.den} {W W' : World} (h : MidF w D rc st pe k d W) (hb : Below W.heap.size W W') (hz : ∀ a, W'.frozen? a = W.frozen? a) : MidF w D rc st pe k d W' := by
  have hg := grown_below hb
  obtain ⟨v, h4, hr⟩ := h.b4
  exact ⟨⟨v, h4.kept hg (by simp), hr.kept hg (by cases v.ownBlock <;> simp)⟩, h.bk.kept hg (by simp), h.below.trans (hb.mono h.below.size), fun a => (hz a).trans (h.frz a), (hb.block _ (lt_of_get h.dfr)).trans h.dfr, (hb.block _ (lt_of_get h.lp)).trans h.lp⟩

/-- The loop's record turned. -/
theorem MidF.turn {w : World} {D : Nat} {rc : LoopState → Option Code → Go.Loop} {st st' : LoopState} {pe pe' : Option Code} {k : Int} {d : List tFault.den} {W : World} (h : MidF w D rc st pe k d W) (hD : w.heap.size ≤ D) : MidF w D rc st' pe' k d (W.putObj (D + 1) (.loop (rc st' pe'))) := by
  have hg := grownBy_putObj' W (D + 1) (.loop (rc st' pe'))
  obtain ⟨v, h4, hr⟩ := h.b4
  have hne : ∀ {k : Nat} {t : TypeId} {v : Value}, Boxed W k t v → some k ≠ some (D + 1) := fun hk e => by
    cases e
    have hk' : W.heap[D + 1]? = _ := hk
    rw [h.lp] at hk'
    cases hk'
  exact ⟨⟨v, h4.kept hg (hne h4), ownsRow_putObj hr _ h.lp rfl⟩, h.bk.kept hg (hne h.bk),
    h.below.trans ⟨hg.os, hg.tape, hg.output, hg.size, fun k hk => hg.block k (Nat.lt_of_lt_of_le hk h.below.size) (by simp; omega)⟩, fun a => (frz_putObj _ _ _ _ h.lp rfl rfl a).trans (h.frz a), (World.putObj_heap_other (by omega)).trans h.dfr, World.putObj_heap_same (lt_of_get h.lp)⟩

set_option maxRecDepth 100000 in
set_option maxHeartbeats 4000000 in
theorem at_in (k : Int) (w : World) :
    CallsIn Fence.wide 3 Try.prog 67 #[.int .i64 k] w fun e w' => e = .returned (.func (.func 105) #[] #[.pointer (some ⟨w.heap.size, 0, none⟩)]) ∧ w' = w.alloc (.cells #[.int .i64 k] 3) := by
  refine callsIn_of_wp Try.func67 rfl trivial ?_ rfl
  simp only [Try.ntmps67, List.size_toArray, List.length_cons, List.length_nil, Nat.reduceAdd, Nat.reduceSub, Array.replicate_succ, Array.replicate_zero, List.push_toArray, List.append_toArray, List.nil_append, List.cons_append]
  gi_wp2
  go_ret
  exact ⟨rfl, rfl⟩

set_option maxRecDepth 100000 in
set_option maxHeartbeats 8000000 in
theorem At_in (k : Int) (w : World) :
    CallsIn Fence.wide 4 Try.prog 25 #[.int .i64 k] w fun e W' => ∃ v, e = .returned v ∧ (Below w.heap.size w W' ∧ ∀ a, W'.frozen? a = w.frozen? a) ∧
      W'.ownsRow w.heap.size 41 4 v (bif decide (k < 0) then [] else atL k).length ((bif decide (k < 0) then [] else atL k).flatMap fltC) := by
  obtain ⟨i0, hi, hz0, hz1, hz2⟩ := info_parts infoFlt
  refine callsIn_of_wp_marks Try.func25 rfl trivial ?_ rfl
  simp only [Try.ntmps25, List.size_toArray, List.length_cons, List.length_nil, Nat.reduceAdd, Nat.reduceSub, Array.replicate_succ, Array.replicate_zero, List.push_toArray, List.append_toArray, List.nil_append, List.cons_append]
  gi_wp2_with (refine ⟨trivial, ?_⟩; gi_at_call 67; refine (at_in k _).mono ?_; rintro e w' ⟨rfl, rfl⟩)
  · have hd : decide (k < 0) = true := decide_eq_true (by assumption)
    rw [hd]
    refine ⟨_, results_tmp rfl _ _ _, _, rfl, ⟨(Below.refl _ w).alloc (Nat.le_refl _) _, frz_alloc _ _ rfl⟩, World.ownsRow_nil _ _ _ _⟩
  · have hk : 0 ≤ k := by assumption
    have hd : decide (k < 0) = false := decide_eq_false (by omega)
    have b4 := (Boxed.new w 38 (.slice none 0 0)).alloc (.cells #[.int .i64 k] 3)
    have bk := Boxed.new (w.alloc (.cells #[.slice none 0 0] 38)) 3 (.int .i64 k)
    simp only [World.size_alloc] at b4 bk
    have hB0 : Below w.heap.size w ((w.alloc (.cells #[.slice none 0 0] 38)).alloc (.cells #[.int .i64 k] 3)) := ((Below.refl _ w).alloc (Nat.le_refl _) _).alloc (by simp) _
    have hF0 : ∀ a, ((w.alloc (.cells #[.slice none 0 0] 38)).alloc (.cells #[.int .i64 k] 3)).frozen? a = w.frozen? a := fun a => by rw [frz_alloc _ _ rfl, frz_alloc _ _ rfl]
    have hsz : ((w.alloc (.cells #[.slice none 0 0] 38)).alloc (.cells #[.int .i64 k] 3)).heap.size = w.heap.size + 2 := by simp
    generalize ((w.alloc (.cells #[.slice none 0 0] 38)).alloc (.cells #[.int .i64 k] 3)) = W0 at b4 bk hB0 hF0 hsz ⊢
    refine range_over rfl (by decide) (gf := 105) (lb := #[.pointer (some ⟨w.heap.size + 1, 0, none⟩)]) rfl trivial (enters_of Try.func105 (by kernel_rfl) rfl) (fun fn _ => ?_)
    generalize hrc : loopRec fn _ _ _ _ W0.heap.size = rc
    have hw1 : ((W0.alloc (.deferred (some []))).alloc (.loop (rc .ready none))).heap[W0.heap.size + 1]? = some (.loop (rc .ready none)) := by
      have := World.alloc_heap_new (W0.alloc (.deferred (some []))) (.loop (rc .ready none))
      rwa [World.size_alloc] at this
    have hw2 : ((W0.alloc (.deferred (some []))).alloc (.loop (rc .ready none))).heap[W0.heap.size]? = some (.deferred (some [])) :=
      (Below.heap_alloc _ _ _ (by simp)).trans (World.alloc_heap_new W0 _)
    have hm0 : MidF w W0.heap.size rc .ready none k [] ((W0.alloc (.deferred (some []))).alloc (.loop (rc .ready none))) :=
      ⟨⟨_, (b4.alloc _).alloc _, World.ownsRow_nil _ _ _ _⟩, (bk.alloc _).alloc _, (hB0.alloc (by omega) _).alloc (by simp; omega) _, fun a => ((frz_alloc _ _ rfl a).trans (frz_alloc _ _ rfl a)).trans (hF0 a), hw2, hw1⟩
    have hD : w.heap.size ≤ W0.heap.size := by omega
    clear hw1 hw2
    refine (at1_in k (w.heap.size + 1) (W0.heap.size + 1) (fun d W => MidF w W0.heap.size rc .ready none k d W) (fun d W h => h.bk) ?round _ hm0).mono ?_
    case round =>
      intro d W x h hlt
      refine round_rc hrc trivial h.lp rfl ?_
      clear hm0 hF0
      rw [hsz] at h ⊢
      gi_wp2
      have h1 := h.below' ((Below.refl _ W).alloc (Nat.le_refl _) (.cells #[.int .i64 x.1, .int .i64 x.2.1, .int .i64 x.2.2.1, .int .i64 x.2.2.2.1] 41)) (frz_alloc _ _ rfl)
      refine ⟨h1.lp, ?_⟩
      have h2 := h1.turn (st' := .busy) (pe' := none) (by omega)
      have hx : ((W.alloc (.cells #[.int .i64 x.1, .int .i64 x.2.1, .int .i64 x.2.2.1, .int .i64 x.2.2.2.1] 41)).putObj (w.heap.size + 2 + 1) (.loop (rc .busy none))).heap[W.heap.size]? = some (.cells #[.int .i64 x.1, .int .i64 x.2.1, .int .i64 x.2.2.1, .int .i64 x.2.2.2.1] 41) :=
        (World.putObj_heap_other (by have := lt_of_get h.lp; omega)).trans (World.alloc_heap_new W _)
      have hxb : w.heap.size ≤ W.heap.size := h.below.size
      generalize ((W.alloc (.cells #[.int .i64 x.1, .int .i64 x.2.1, .int .i64 x.2.2.1, .int .i64 x.2.2.2.1] 41)).putObj (w.heap.size + 2 + 1) (.loop (rc .busy none))) = W2 at h2 hx ⊢
      generalize W.heap.size = bx at hx hxb ⊢
      clear h1 h hrc
      obtain ⟨⟨v, b4', hrow⟩, bk', hB', hZ0, hD', hL'⟩ := h2
      have hZ' : Hid (∀ a, W2.frozen? a = w.frozen? a) := hZ0
      clear hZ0
      have c4 := b4'.cell
      have cx : ∀ k, k < 4 → W2.cell? ⟨bx, k, none⟩ = some ((fltC x).getD k undef) := fun k hk => by
        simp only [World.cell?, hx]
        match k, hk with
        | 0, _ => rfl
        | 1, _ => rfl
        | 2, _ => rfl
        | 3, _ => rfl
      have cx0 := cx 0 (by decide)
      have cx1 := cx 1 (by decide)
      have cx2 := cx 2 (by decide)
      have cx3 := cx 3 (by decide)
      simp only [fltC, List.getD_cons_zero, List.getD_cons_succ] at cx0 cx1 cx2 cx3
      clear cx
      have hml : d.length + 1 ≤ maxLen := by unfold maxLen; omega
      have hmb : (d.length + 1) * 32 ≤ 140737488355328 := by omega
      gi_wp2_with (gi_at_builtin; refine wpListIn_append_frz _ rfl _ _ 38 rfl w.heap.size 41 i0 (.agg #[.int .i64 0, .int .i64 0, .int .i64 0, .int .i64 0]) 4 32 Try.underlying38 hi hz0 hz1 hz2 rfl (by decide) _ _ _ rfl (hrow.alloc _) ⟨W2.heap.size, 0, none⟩ 1 1 (by decide) (fltC x) rfl rfl (cells_new _ _ _ _ rfl) (by simp [fltC, Value.oneCell']) hml hmb (by have := hB'.size; simp; omega) ?_; intro v' w1 hown' hgrow hfz0; have hfz := show Hid (∀ x, w1.frozen? x = _) from hfz0; clear hfz0; obtain ⟨g', cap', rfl⟩ := ownsRow_succ hown'; obtain ⟨hv1, hv2, hr2, hk2, hb2⟩ := b4'.appended (by decide) hrow hB'.size (by omega) hown' hgrow; have hc1 := hv1.cell; have hf1 := hv1.frozen)
      have nk := bk'.not_row (by decide) hrow
      have hgs := grownBy_setCell' w1 w.heap.size (.slice (some ⟨g', 0, none⟩) (d.length + 1) cap')
      have hm : MidF w (w.heap.size + 2) rc .busy none k (d ++ [x]) (w1.setCell ⟨w.heap.size, 0, none⟩ (.slice (some ⟨g', 0, none⟩) (d.length + 1) cap')) :=
        ⟨⟨_, hv2, by simpa [List.flatMap_append] using hr2⟩, ((bk'.alloc _).kept hgrow nk).kept hgs (by simp), hB'.trans hb2, fun a => ((World.frozen?_setCell ..).trans ((hfz.out a).trans (frz_alloc _ _ rfl a))).trans (hZ'.out a), hk2.same _ _ hD' rfl, hk2.same _ _ hL' rfl⟩
      exact ⟨hm.lp, rfl, hm.turn (by omega)⟩
    · rintro e W1 ⟨hv, hm⟩
      refine ⟨hv, .inl ⟨hm.lp, ?_⟩⟩
      have h2 := hm.turn (st' := .exhausted) (pe' := none) (by omega)
      clear hm0
      generalize (W1.putObj (W0.heap.size + 1) (.loop (rc .exhausted none))) = W2 at h2 ⊢
      obtain ⟨v, b4', hrow⟩ := h2.b4
      have c4 := b4'.cell
      have hd3 := h2.dfr
      rw [hsz] at hd3 ⊢
      gi_wp2
      refine ⟨by simp, .inl ⟨_, _, rfl, run_takeDeferred hd3, ?_⟩⟩
      have hgp := grownBy_putObj' W2 (w.heap.size + 2) (.deferred none)
      refine ⟨_, results_tmp rfl _ _ _, v, rfl, ⟨h2.below.trans ⟨hgp.os, hgp.tape, hgp.output, hgp.size, fun k hk => hgp.block k (Nat.lt_of_lt_of_le hk h2.below.size) (by simp; omega)⟩, fun a => (frz_putObj _ _ _ _ hd3 rfl rfl a).trans (h2.frz a)⟩, ?_⟩
      exact ownsRow_putObj hrow _ hd3 rfl

/-! ### As a function of plain arguments -/

theorem fltC_RL {w : World} {K : Kinds} : ∀ l : List tFault.den, RL (RT w K tFault) l (l.flatMap fltC)
  | [] => rfl
  | x :: l => ⟨fltC x, l.flatMap fltC, by simp, ⟨[.int .i64 x.1], _, rfl, rfl, [.int .i64 x.2.1], _, rfl, rfl, [.int .i64 x.2.2.1], _, rfl, rfl, [.int .i64 x.2.2.2.1], [], rfl, rfl, rfl⟩, fltC_RL l⟩

theorem at_plain : PlainOk Try.prog 25 (plainT A_campaign_At G_campaign_At S_campaign_At V_campaign_At) := by
  intro args v hv w K vs hvs hfix
  unfold plainT at hv
  cases hx : asAll A_campaign_At args with
  | none => rw [hx] at hv; cases hv
  | some k =>
    rw [hx] at hv
    simp only [Option.map_some, Option.some.injEq, Prod.mk.injEq] at hv
    obtain ⟨hg, rfl⟩ := hv
    have hva := asAll_RVs A_campaign_At args k vs hx hvs
    match vs, hva with
    | [u], hva =>
      have hu := RV.int hva.1
      subst hu
      refine (callsIn_wide.1 (At_in k w)).mono ?_
      rintro e W' ⟨r, rfl, ⟨hB, hF⟩, hrow⟩
      have hK : ∀ b, (if b < w.heap.size then K b else Kind.old).fixed = true := fun b => by
        by_cases h : b < w.heap.size
        · rw [if_pos h]; exact hfix b h
        · rw [if_neg h]; rfl
      refine ⟨_, fun b => if b < w.heap.size then K b else .old, rfl, ?_, ?_, ?_⟩
      · exact {
          os := hB.os
          tape := hB.tape
          output := hB.output
          size := hB.size
          fix := fun b hb _ => ⟨if_pos hb, hB.block b hb⟩
          stab := fun b o hb hs => ⟨by unfold Stab; simp only [if_pos hb]; exact hs, World.cell?_of_block (hB.block b hb)⟩
          box := fun b id hb hk => by simp only [if_pos hb]; exact hk
          frz := hF }
      · intro b id _ hk
        have h1 := hK b
        simp only at hk
        rw [hk] at h1
        cases h1
      · have hcc : ∀ A len cap, r = .slice A len cap → ∀ a, A = some a → ∃ cc, RL (RT W' (fun b => if b < w.heap.size then K b else .old) tFault) (bif decide (k < 0) then [] else atL k) cc ∧ At W' (fun b => if b < w.heap.size then K b else .old) a cc := by
          intro A len cap hr a ha
          subst hr ha
          rcases hrow.2 with ⟨e, _⟩ | ⟨g, cap', cur, e, hg, hh, _, _, _, hpre⟩
          · cases e
          · injection e with e1 e2 e3
            injection e1 with e1
            subst e1
            refine ⟨_, fltC_RL _, fun j v hj => ⟨rfl, ?_, ?_⟩⟩
            · rw [← hpre] at hj
              simp only [World.cell?, hh, Option.isSome_none, Bool.false_eq_true, if_false, Nat.zero_add]
              rw [List.getElem?_take] at hj
              split at hj
              · simpa using hj
              · cases hj
            · unfold Stab
              simp only [if_neg (Nat.not_lt.2 hg)]
              exact trivial
        rcases hrow.2 with ⟨e, h0⟩ | ⟨g, cap', cur, e, _, _, hle, _⟩
        · subst e
          exact ⟨⟨none, 0, 0, rfl, h0.symm, Nat.le_refl _, fun _ => rfl, fun a ha => by cases ha⟩, (fun e => (by cases e)), (fun _ c e => (by cases e))⟩
        · subst e
          exact ⟨⟨_, _, cap', rfl, rfl, hle, (fun e => (by cases e)), hcc _ _ _ rfl⟩, (fun e => (by cases e)), (fun _ c e => (by cases e))⟩

end Go.Proofs.Ytfdnniopghcngaa
