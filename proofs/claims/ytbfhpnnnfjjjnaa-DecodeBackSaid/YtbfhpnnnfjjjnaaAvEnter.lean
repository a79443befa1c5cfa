/- A frame within a frame: what goes in to a call or a loop under names of its own, and what comes back. -/
import Derived.Test.YtbfhpnnnfjjjnaaAvCode
namespace Go.Av
open Go

/-- Boxes lie in memory, each once. -/
structure HeapOk (w : World) (K : Kinds) (h : Heap) : Prop where
  cells : ∀ b id, b < w.heap.size → K b = .box id → ∃ av cs T, look id h = some av ∧ w.heap[b]? = some (.cells cs T (0, 0)) ∧ RS w K av.sh av.v cs.toList
  uniq : ∀ b b' id, b < w.heap.size → b' < w.heap.size → K b = .box id → K b' = .box id → b = b'

theorem Rel.heapOk {fr : Fr} {n : Nat} {K : Kinds} {s : St} {a : Act} {w : World} (h : Rel fr n K s a w) : HeapOk w K s.heap := ⟨h.heap, h.uniq⟩

def farK (ts bs : List Nat) (K : Kinds) : Kinds := fun b =>
  match K b with
  | .old => .old
  | .far u => .far u
  | .box id => (match indexIn id bs 0 with
    | some j => .box j
    | none => .far 0)
  | .row id u => (match indexIn id ts 0 with
    | some j => .row j u
    | none => .far u)

def renKind (ρ σ : Nat → Option Nat) : Kind → Kind
  | .old => .old
  | .far u => .far u
  | .box j => (match σ j with
    | some id => .box id
    | none => .far 0)
  | .row j u => (match ρ j with
    | some id => .row id u
    | none => .far u)

/-- The kinds behind it. -/
def backK (N : Nat) (ts bs : List Nat) (w : World) (K K' : Kinds) : Kinds := fun b =>
  if b < w.heap.size then
    match K b with
    | .old => .old
    | .far u => .far u
    | .box id => .box id
    | .row id u => if ts.contains id then renKind (nthOr N ts) (nthOr N bs) (K' b) else .row id u
  else renKind (nthOr N ts) (nthOr N bs) (K' b)

theorem indexIn_spec {id : Nat} : ∀ (l : List Nat) (k j : Nat), indexIn id l k = some j → ∃ i, j = k + i ∧ l[i]? = some id
  | [], _, _, h => by cases h
  | x :: l, k, j, h => by
    simp only [indexIn] at h
    split at h
    · rename_i e
      cases h
      exact ⟨0, rfl, by simp at e; simp [e]⟩
    · obtain ⟨i, h1, h2⟩ := indexIn_spec l (k + 1) j h
      exact ⟨i + 1, by omega, by simpa using h2⟩

theorem indexIn_isSome {id : Nat} : ∀ (l : List Nat) (k : Nat), l.contains id = true → (indexIn id l k).isSome = true
  | [], _, h => by simp at h
  | x :: l, k, h => by
    simp only [indexIn]
    split
    · rfl
    · rename_i e
      simp only [beq_iff_eq] at e
      refine indexIn_isSome l (k + 1) ?_
      simp only [List.contains_cons, Bool.or_eq_true, beq_iff_eq] at h
      rcases h with h | h
      · exact (e h).elim
      · exact h

theorem contains_of_get {l : List Nat} {i id : Nat} (h : l[i]? = some id) : l.contains id = true := by
  have := List.mem_of_getElem? h
  simpa using this

theorem stab_farK (ts bs : List Nat) (K : Kinds) (b o : Nat) : Stab (farK ts bs K) b o ↔ Stab K b o := by
  unfold Stab farK
  cases e : K b with
  | old => exact Iff.rfl
  | far u => exact Iff.rfl
  | box id => simp only; cases h : indexIn id bs 0 <;> simp [StabK]
  | row id u => simp only; cases h : indexIn id ts 0 <;> simp [StabK]

theorem stab_renKind (ρ σ : Nat → Option Nat) (k : Kind) (o : Nat) : StabK (renKind ρ σ k) o ↔ StabK k o := by
  cases k with
  | old => exact Iff.rfl
  | far u => exact Iff.rfl
  | box id => simp only [renKind]; cases σ id <;> simp [StabK]
  | row id u => simp only [renKind]; cases ρ id <;> exact Iff.rfl

section
variable {w w' : World} {K K' : Kinds} {N : Nat} {ts bs : List Nat}

theorem farK_fixed {b : Nat} (h : (K b).fixed = true) : farK ts bs K b = K b := by
  unfold farK
  cases e : K b with
  | old => rfl
  | far u => rfl
  | box id => rw [e] at h; cases h
  | row id u => rw [e] at h; cases h

/-- Going in. -/
theorem RV.enter {ρ σ : Nat → Option Nat} (hρ : ∀ id j, ρ id = some j → indexIn id ts 0 = some j) (hσ : ∀ id j, σ id = some j → indexIn id bs 0 = some j) {a : AV} {v : Value} (h : RV w K a v) : RV w (farK ts bs K) (a.ren ρ σ) v := by
  refine RV.ren (w' := w) (K' := farK ts bs K) (fun b o _ hs => ⟨(stab_farK _ _ _ _ _).2 hs, rfl⟩) (Nat.le_refl _) (fun b id u j _ hk hj => ⟨?_, rfl⟩) (fun b id j _ hk hj => ?_) h
  · unfold farK; rw [hk]; simp only [hρ _ _ hj]
  · unfold farK; rw [hk]; simp only [hσ _ _ hj]

theorem RS.enter {ρ σ : Nat → Option Nat} (hρ : ∀ id j, ρ id = some j → indexIn id ts 0 = some j) (hσ : ∀ id j, σ id = some j → indexIn id bs 0 = some j) {a : AV} {cs : List Value} (h : RS w K a.sh a.v cs) :
    RS w (farK ts bs K) (a.ren ρ σ).sh (a.ren ρ σ).v cs := by
  have := RS.ren (w' := w) (K' := farK ts bs K) (ρ := ρ) (σ := σ) (fun b o _ hs => ⟨(stab_farK _ _ _ _ _).2 hs, rfl⟩) (Nat.le_refl _) (fun b id u j _ hk hj => ⟨by unfold farK; rw [hk]; simp only [hρ _ _ hj], rfl⟩) (fun b id j _ hk hj => by unfold farK; rw [hk]; simp only [hσ _ _ hj]) _ _ _ h
  obtain ⟨sh, x⟩ := a
  cases sh
  case tup => exact h.elim
  all_goals exact this

theorem look_localHeap {ρ σ : Nat → Option Nat} {h : Heap} : ∀ (bs : List Nat) (k i id : Nat) (c : AV), bs[i]? = some id → (∀ j, j < bs.length → ∃ x y, bs[j]? = some x ∧ look x h = some y) → look id h = some c → look (k + i) (localHeap h ρ σ bs k) = some (c.ren ρ σ)
  | [], _, _, _, _, hi, _, _ => by simp at hi
  | x :: bs, k, i, id, c, hi, hall, hc => by
    obtain ⟨x', y, hx, hy⟩ := hall 0 (by simp)
    simp at hx
    subst hx
    simp only [localHeap, hy, List.singleton_append, look]
    cases i with
    | zero =>
      simp at hi
      subst hi
      rw [hy] at hc
      cases hc
      simp
    | succ i =>
      have h1 : (k + (i + 1) == k) = false := by simp
      have h2 : Nat.blt (k + (i + 1)) k = false := by
        cases hb : Nat.blt (k + (i + 1)) k
        · rfl
        · rw [Nat.blt_eq] at hb; omega
      rw [h1, h2]
      simp only [Bool.false_eq_true, if_false]
      have := look_localHeap (ρ := ρ) (σ := σ) bs (k + 1) i id c (by simpa using hi) (fun j hj => by obtain ⟨x, y, e1, e2⟩ := hall (j + 1) (by simp; omega); exact ⟨x, y, by simpa using e1, e2⟩) hc
      rw [show k + (i + 1) = k + 1 + i by omega]
      exact this

theorem noDup_inj : ∀ (l : List Nat) (i j x : Nat), noDup l = true → l[i]? = some x → l[j]? = some x → i = j
  | [], i, _, _, _, h, _ => by simp at h
  | y :: l, i, j, x, hn, hi, hj => by
    simp only [noDup, Bool.and_eq_true, Bool.not_eq_true'] at hn
    cases i with
    | zero =>
      cases j with
      | zero => rfl
      | succ j =>
        simp at hi
        subst hi
        have := contains_of_get (l := l) (i := j) (by simpa using hj)
        rw [hn.1] at this
        cases this
    | succ i =>
      cases j with
      | zero =>
        simp at hj
        subst hj
        have := contains_of_get (l := l) (i := i) (by simpa using hi)
        rw [hn.1] at this
        cases this
      | succ j =>
        have := noDup_inj l i j x hn.2 (by simpa using hi) (by simpa using hj)
        omega

theorem HeapOk.enter {h : Heap} (hh : HeapOk w K h) (hbs : ∀ j, j < bs.length → ∃ x y, bs[j]? = some x ∧ look x h = some y) :
    HeapOk w (farK ts bs K) (localHeap h (fun id => indexIn id ts 0) (fun id => indexIn id bs 0) bs 0) where
  cells := fun b j hb hk => by
    unfold farK at hk
    cases e : K b with
    | old => rw [e] at hk; cases hk
    | far u => rw [e] at hk; cases hk
    | row id u => rw [e] at hk; simp only at hk; split at hk <;> cases hk
    | box id =>
      rw [e] at hk
      simp only at hk
      split at hk
      · rename_i j' hj
        cases hk
        obtain ⟨i, e1, e2⟩ := indexIn_spec _ _ _ hj
        obtain ⟨av, cs, T, l1, l2, l3⟩ := hh.cells b id hb e
        refine ⟨_, cs, T, ?_, l2, l3.enter (ts := ts) (bs := bs) (fun _ _ h => h) (fun _ _ h => h)⟩
        have := look_localHeap (ρ := fun id => indexIn id ts 0) (σ := fun id => indexIn id bs 0) bs 0 i id av e2 hbs l1
        rw [e1]
        exact this
      · cases hk
  uniq := fun b b' j hb hb' hk hk' => by
    have key : ∀ x, farK ts bs K x = .box j → ∃ id, K x = .box id ∧ bs[j]? = some id := fun x hx => by
      unfold farK at hx
      cases e : K x with
      | old => rw [e] at hx; cases hx
      | far u => rw [e] at hx; cases hx
      | row id u => rw [e] at hx; simp only at hx; split at hx <;> cases hx
      | box id =>
        rw [e] at hx
        simp only at hx
        split at hx
        · rename_i j' hj
          cases hx
          obtain ⟨i, e1, e2⟩ := indexIn_spec _ _ _ hj
          exact ⟨id, rfl, by rw [e1, Nat.zero_add]; exact e2⟩
        · cases hx
    obtain ⟨id, h1, h2⟩ := key b hk
    obtain ⟨id', h3, h4⟩ := key b' hk'
    rw [h2] at h4
    cases h4
    exact hh.uniq b b' id hb hb' h1 h3

/-- Coming back: kinds. -/
theorem backK_stab (g : Ext w (farK ts bs K) w' K') (b o : Nat) (hb : b < w.heap.size) (hs : Stab K b o) : Stab (backK N ts bs w K K') b o := by
  have h1 := (g.stab b o hb ((stab_farK ts bs K b o).2 hs)).1
  unfold Stab at h1 hs ⊢
  unfold backK
  rw [if_pos hb]
  cases e : K b with
  | old => trivial
  | far u => rw [e] at hs; exact hs
  | box id => rw [e] at hs; exact hs.elim
  | row id u =>
    rw [e] at hs
    simp only
    split
    · exact (stab_renKind _ _ _ _).2 h1
    · exact hs

theorem backK_ext (g : Ext w (farK ts bs K) w' K') : Ext w K w' (backK N ts bs w K K') where
  os := g.os
  tape := g.tape
  output := g.output
  size := g.size
  fix := fun b hb hf => by
    obtain ⟨h1, h2⟩ := g.fix b hb (by rw [farK_fixed hf]; exact hf)
    refine ⟨?_, h2⟩
    unfold backK
    simp only [hb, if_true]
    cases e : K b with
    | old => rfl
    | far u => rfl
    | box id => exact absurd hf (by rw [e]; exact Bool.false_ne_true)
    | row id u => exact absurd hf (by rw [e]; exact Bool.false_ne_true)
  stab := fun b o hb hs => ⟨backK_stab g b o hb hs, (g.stab b o hb ((stab_farK ts bs K b o).2 hs)).2⟩
  box := fun b id hb hk => by unfold backK; simp only [hb, if_true, hk]
  frz := g.frz

/-- What was not handed in, or was handed in as a box: as it was. -/
theorem RV.back (g : Ext w (farK ts bs K) w' K') {a : AV} {v : Value} (h : RV w K a v) : RV w' (backK N ts bs w K K') (a.ren (strikeAll ts) some) v := by
  refine RV.ren (backK_ext g).stab g.size (fun b id u j hb hk hj => ?_) (fun b id j hb hk hj => by cases hj; exact (backK_ext g).box b id hb hk) h
  unfold strikeAll at hj
  split at hj
  · cases hj
  · rename_i hn
    cases hj
    have hfar : farK ts bs K b = .far u := by
      unfold farK
      rw [hk]
      simp only
      cases hi : indexIn id ts 0 with
      | none => rfl
      | some j => obtain ⟨i, _, e⟩ := indexIn_spec _ _ _ hi; exact (hn (contains_of_get e)).elim
    obtain ⟨h1, h2⟩ := g.fix b hb (by rw [hfar]; rfl)
    refine ⟨?_, h2⟩
    unfold backK
    rw [if_pos hb, hk]
    simp only
    rw [if_neg hn]

theorem RS.back (g : Ext w (farK ts bs K) w' K') {a : AV} {cs : List Value} (h : RS w K a.sh a.v cs) : RS w' (backK N ts bs w K K') (a.ren (strikeAll ts) some).sh (a.ren (strikeAll ts) some).v cs := by
  have := RS.ren (w' := w') (K' := backK N ts bs w K K') (ρ := strikeAll ts) (σ := some) (backK_ext g).stab g.size (fun b id u j hb hk hj => by
    unfold strikeAll at hj
    split at hj
    · cases hj
    · rename_i hn
      cases hj
      have hfar : farK ts bs K b = .far u := by
        unfold farK
        rw [hk]
        simp only
        cases hi : indexIn id ts 0 with
        | none => rfl
        | some j => obtain ⟨i, _, e⟩ := indexIn_spec _ _ _ hi; exact (hn (contains_of_get e)).elim
      obtain ⟨h1, h2⟩ := g.fix b hb (by rw [hfar]; rfl)
      refine ⟨?_, h2⟩
      unfold backK
      rw [if_pos hb, hk]
      simp only
      rw [if_neg hn]) (fun b id j hb hk hj => by cases hj; exact (backK_ext g).box b id hb hk) _ _ _ h
  obtain ⟨sh, x⟩ := a
  cases sh
  case tup => exact h.elim
  all_goals exact this

/-- Each block's kind behind it, as the callee's. -/
theorem backK_of (g : Ext w (farK ts bs K) w' K') (b : Nat) : (backK N ts bs w K K' b = renKind (nthOr N ts) (nthOr N bs) (K' b)) ∨ (b < w.heap.size ∧ (K' b).fixed = true ∧ ∀ o, Stab K' b o → Stab (backK N ts bs w K K') b o) := by
  unfold backK
  by_cases hb : b < w.heap.size
  · rw [if_pos hb]
    cases e : K b with
    | old =>
      obtain ⟨h1, _⟩ := g.fix b hb (by rw [farK_fixed (by rw [e]; rfl), e]; rfl)
      rw [farK_fixed (by rw [e]; rfl), e] at h1
      exact .inl (by rw [h1]; rfl)
    | far u =>
      obtain ⟨h1, _⟩ := g.fix b hb (by rw [farK_fixed (by rw [e]; rfl), e]; rfl)
      rw [farK_fixed (by rw [e]; rfl), e] at h1
      exact .inl (by rw [h1]; rfl)
    | box id =>
      cases hi : indexIn id bs 0 with
      | none =>
        have hf : farK ts bs K b = .far 0 := by unfold farK; rw [e]; simp only [hi]
        obtain ⟨h1, _⟩ := g.fix b hb (by rw [hf]; rfl)
        rw [hf] at h1
        refine .inr ⟨hb, by rw [h1]; rfl, fun o hs => ?_⟩
        unfold Stab at hs
        rw [h1] at hs
        exact absurd hs (Nat.not_lt_zero o)
      | some j =>
        have hf : farK ts bs K b = .box j := by unfold farK; rw [e]; simp only [hi]
        have h1 := g.box b j hb hf
        obtain ⟨i, e1, e2⟩ := indexIn_spec _ _ _ hi
        refine .inl ?_
        rw [h1]
        simp only [renKind, nthOr, e1, Nat.zero_add, e2]
    | row id u =>
      by_cases hc : ts.contains id = true
      · exact .inl (by simp only [hc, if_true])
      · have hf : farK ts bs K b = .far u := by
          unfold farK
          rw [e]
          simp only
          cases hi : indexIn id ts 0 with
          | none => rfl
          | some j => obtain ⟨i, _, e⟩ := indexIn_spec _ _ _ hi; exact (hc (contains_of_get e)).elim
        obtain ⟨h1, _⟩ := g.fix b hb (by rw [hf]; rfl)
        rw [hf] at h1
        refine .inr ⟨hb, by rw [h1]; rfl, fun o hs => ?_⟩
        unfold Stab at hs ⊢
        rw [h1] at hs
        have : (fun b => if b < w.heap.size then (match K b with
          | .old => .old
          | .far u => .far u
          | .box id => .box id
          | .row id u => if ts.contains id then renKind (nthOr N ts) (nthOr N bs) (K' b) else .row id u)
          else renKind (nthOr N ts) (nthOr N bs) (K' b)) b = Kind.row id u := by
          simp only [hb, if_true, e, hc]
          rfl
        rw [this]
        exact hs
  · rw [if_neg hb]
    exact .inl rfl

theorem back_keep (g : Ext w (farK ts bs K) w' K') (b o : Nat) (hs : Stab K' b o) : Stab (backK N ts bs w K K') b o := by
  rcases backK_of (N := N) g b with h | ⟨_, _, h⟩
  · unfold Stab at hs ⊢
    rw [h]
    exact (stab_renKind _ _ _ _).2 hs
  · exact h o hs

theorem RV.leave (g : Ext w (farK ts bs K) w' K') {a : AV} {v : Value} (h : RV w' K' a v) : RV w' (backK N ts bs w K K') (a.ren (nthOr N ts) (nthOr N bs)) v := by
  refine RV.ren (w' := w') (fun b o _ hs => ⟨back_keep g b o hs, rfl⟩) (Nat.le_refl _) (fun b id u j _ hk hj => ⟨?_, rfl⟩) (fun b id j _ hk hj => ?_) h
  · rcases backK_of (N := N) g b with h | ⟨_, h, _⟩
    · rw [h, hk]; simp only [renKind, hj]
    · rw [hk] at h; cases h
  · rcases backK_of (N := N) g b with h | ⟨_, h, _⟩
    · rw [h, hk]; simp only [renKind, hj]
    · rw [hk] at h; cases h

theorem RS.leave (g : Ext w (farK ts bs K) w' K') {a : AV} {cs : List Value} (h : RS w' K' a.sh a.v cs) : RS w' (backK N ts bs w K K') (a.ren (nthOr N ts) (nthOr N bs)).sh (a.ren (nthOr N ts) (nthOr N bs)).v cs := by
  have := RS.ren (w' := w') (K' := backK N ts bs w K K') (ρ := nthOr N ts) (σ := nthOr N bs) (fun b o _ hs => ⟨back_keep g b o hs, rfl⟩) (Nat.le_refl _) (fun b id u j _ hk hj => ⟨(by
      rcases backK_of (N := N) g b with h | ⟨_, h, _⟩
      · rw [h, hk]; simp only [renKind, hj]
      · rw [hk] at h; cases h), rfl⟩) (fun b id j _ hk hj => by
      rcases backK_of (N := N) g b with h | ⟨_, h, _⟩
      · rw [h, hk]; simp only [renKind, hj]
      · rw [hk] at h; cases h) _ _ _ h
  obtain ⟨sh, x⟩ := a
  cases sh
  case tup => exact h.elim
  all_goals exact this

theorem freshIn_mem {h0 : Heap} : ∀ (h : Heap), freshIn N bs h0 h = true → ∀ x ∈ h, bs[x.1]? = none → look (N + x.1) h0 = none
  | [], _, _, hx, _ => by cases hx
  | (k, u) :: l, hf, x, hx, hn => by
    simp only [freshIn, Bool.and_eq_true] at hf
    rcases List.mem_cons.1 hx with rfl | hx
    · rw [hn] at hf
      simpa using hf.1
    · exact freshIn_mem l hf.2 x hx hn

theorem look_mem {α : Type} {j : Nat} {c : α} : ∀ (h : List (Nat × α)), look j h = some c → (j, c) ∈ h
  | [], h => by cases h
  | (k, u) :: l, h => by
    simp only [look] at h
    split at h
    · rename_i e
      simp only [beq_iff_eq] at e
      cases h
      subst e
      exact List.mem_cons_self
    · split at h
      · cases h
      · exact List.mem_cons_of_mem _ (look_mem l h)

theorem look_back_old {ρ σ : Nat → Option Nat} {h0 : Heap} {id : Nat} : ∀ (h : Heap), (∀ x ∈ h, σ x.1 ≠ some id) → look id (backHeap ρ σ h0 h) = look id h0
  | [], _ => rfl
  | (k, u) :: l, hall => by
    have hk := hall (k, u) List.mem_cons_self
    have ih := look_back_old (ρ := ρ) (h0 := h0) l (fun x hx => hall x (List.mem_cons_of_mem _ hx))
    simp only [backHeap]
    split
    · rename_i id' e
      rw [look_put, if_neg (fun e' => hk (by rw [e, e']))]
      exact ih
    · exact ih

theorem look_back_new {ρ σ : Nat → Option Nat} {h0 : Heap} {id j : Nat} {c : AV} (hj : σ j = some id) : ∀ (h : Heap), look j h = some c → (∀ x ∈ h, σ x.1 = some id → x.1 = j) → look id (backHeap ρ σ h0 h) = some (c.ren ρ σ)
  | [], h, _ => by cases h
  | (k, u) :: l, h, hall => by
    simp only [look] at h
    simp only [backHeap]
    split at h
    · rename_i e
      simp only [beq_iff_eq] at e
      cases h
      subst e
      rw [hj]
      simp only
      rw [look_put, if_pos rfl]
    · rename_i hne
      simp only [beq_iff_eq] at hne
      split at h
      · cases h
      · have ih := look_back_new (ρ := ρ) (h0 := h0) hj l h (fun x hx => hall x (List.mem_cons_of_mem _ hx))
        split
        · rename_i id' e
          rw [look_put, if_neg (fun e' => hne ((hall (k, u) List.mem_cons_self (by rw [e, e'])).symm))]
          exact ih
        · exact ih

/-- The boxes behind it. -/
theorem HeapOk.leave {h0 h' : Heap} (hh : HeapOk w K h0) (hnd : noDup bs = true) (hbs : bs.all (hasBox h0) = true) (g : Ext w (farK ts bs K) w' K') (hh' : HeapOk w' K' h') (hf : freshIn N bs h0 h' = true) :
    HeapOk w' (backK N ts bs w K K') (backHeap (nthOr N ts) (nthOr N bs) (mapV (·.ren (strikeAll ts) some) h0) h') := by
  have hin : ∀ (i x : Nat), bs[i]? = some x → (look x h0).isSome = true := fun i x hi => List.all_eq_true.1 hbs x (List.mem_of_getElem? hi)
  -- two names of boxes that come back are unlike
  have inj : ∀ (j j' id : Nat), (∃ c, (j, c) ∈ h') → (∃ c, (j', c) ∈ h') → nthOr N bs j = some id → nthOr N bs j' = some id → j = j' := by
    intro j j' id ⟨c, hc⟩ ⟨c', hc'⟩ e1 e2
    unfold nthOr at e1 e2
    cases h1 : bs[j]? with
    | some x =>
      rw [h1] at e1
      cases e1
      cases h2 : bs[j']? with
      | some y =>
        rw [h2] at e2
        cases e2
        exact noDup_inj bs j j' id hnd h1 h2
      | none =>
        rw [h2] at e2
        cases e2
        have := freshIn_mem h' hf _ hc' h2
        have h3 := hin _ _ h1
        simp only at this
        rw [this] at h3
        cases h3
    | none =>
      rw [h1] at e1
      cases e1
      cases h2 : bs[j']? with
      | some y =>
        rw [h2] at e2
        cases e2
        have := freshIn_mem h' hf _ hc h1
        have h3 := hin _ _ h2
        simp only at this
        rw [this] at h3
        cases h3
      | none =>
        rw [h2] at e2
        simp only [Option.some.injEq] at e2
        omega
  have origin : ∀ (b id : Nat), b < w'.heap.size → backK N ts bs w K K' b = .box id → (∃ j, K' b = .box j ∧ nthOr N bs j = some id) ∨ (b < w.heap.size ∧ K b = .box id ∧ indexIn id bs 0 = none) := by
    intro b id hb hk
    by_cases hlt : b < w.heap.size
    · cases e : K b with
      | box id' =>
        have : backK N ts bs w K K' b = .box id' := by unfold backK; simp only [hlt, if_true, e]
        rw [this] at hk
        cases hk
        cases hi : indexIn id bs 0 with
        | none => exact .inr ⟨hlt, rfl, rfl⟩
        | some j =>
          have hfar : farK ts bs K b = .box j := by unfold farK; simp only [e, hi]
          have h1 := g.box b j hlt hfar
          obtain ⟨i, e1, e2⟩ := indexIn_spec _ _ _ hi
          exact .inl ⟨j, h1, by simp only [nthOr, e1, Nat.zero_add, e2]⟩
      | old =>
        have : backK N ts bs w K K' b = .old := by unfold backK; simp only [hlt, if_true, e]
        rw [this] at hk
        cases hk
      | far u =>
        have : backK N ts bs w K K' b = .far u := by unfold backK; simp only [hlt, if_true, e]
        rw [this] at hk
        cases hk
      | row id' u =>
        have : backK N ts bs w K K' b = if ts.contains id' then renKind (nthOr N ts) (nthOr N bs) (K' b) else .row id' u := by unfold backK; simp only [hlt, if_true, e]
        rw [this] at hk
        split at hk
        · cases e' : K' b with
          | box j => rw [e'] at hk; simp only [renKind] at hk; split at hk <;> cases hk; exact .inl ⟨j, rfl, by assumption⟩
          | old => rw [e'] at hk; cases hk
          | far u => rw [e'] at hk; cases hk
          | row j u => rw [e'] at hk; simp only [renKind] at hk; split at hk <;> cases hk
        · cases hk
    · have : backK N ts bs w K K' b = renKind (nthOr N ts) (nthOr N bs) (K' b) := by unfold backK; simp only [hlt, if_false]
      rw [this] at hk
      cases e' : K' b with
      | box j => rw [e'] at hk; simp only [renKind] at hk; split at hk <;> cases hk; exact .inl ⟨j, rfl, by assumption⟩
      | old => rw [e'] at hk; cases hk
      | far u => rw [e'] at hk; cases hk
      | row j u => rw [e'] at hk; simp only [renKind] at hk; split at hk <;> cases hk
  have notback : ∀ (b id : Nat), b < w.heap.size → K b = .box id → indexIn id bs 0 = none → ∀ x ∈ h', nthOr N bs x.1 ≠ some id := by
    intro b id hb hk hi x hx e
    unfold nthOr at e
    obtain ⟨av, cs, T, l1, _⟩ := hh.cells b id hb hk
    cases h1 : bs[x.1]? with
    | some y =>
      rw [h1] at e
      cases e
      have := indexIn_isSome bs 0 (contains_of_get h1)
      rw [hi] at this
      cases this
    | none =>
      rw [h1] at e
      have e' : N + x.1 = id := by simpa using e
      have := freshIn_mem h' hf x hx h1
      rw [e', l1] at this
      cases this
  refine ⟨fun b id hb hk => ?_, fun b b' id hb hb' hk hk' => ?_⟩
  · rcases origin b id hb hk with ⟨j, h1, h2⟩ | ⟨h1, h2, h3⟩
    · obtain ⟨av, cs, T, l1, l2, l3⟩ := hh'.cells b j hb h1
      refine ⟨_, cs, T, look_back_new h2 h' l1 (fun x hx e => inj x.1 j id ⟨x.2, hx⟩ ⟨av, look_mem _ l1⟩ e h2), l2, RS.leave g l3⟩
    · obtain ⟨av, cs, T, l1, l2, l3⟩ := hh.cells b id h1 h2
      have hfar : farK ts bs K b = .far 0 := by unfold farK; simp only [h2, h3]
      obtain ⟨_, f2⟩ := g.fix b h1 (by rw [hfar]; rfl)
      refine ⟨av.ren (strikeAll ts) some, cs, T, ?_, f2.trans l2, RS.back g l3⟩
      rw [look_back_old h' (notback b id h1 h2 h3), look_mapV, l1]
      rfl
  · rcases origin b id hb hk with ⟨j, h1, h2⟩ | ⟨h1, h2, h3⟩
    · rcases origin b' id hb' hk' with ⟨j', h1', h2'⟩ | ⟨h1', h2', h3'⟩
      · obtain ⟨av, _, _, l1, _⟩ := hh'.cells b j hb h1
        obtain ⟨av', _, _, l1', _⟩ := hh'.cells b' j' hb' h1'
        have := inj j j' id ⟨_, look_mem _ l1⟩ ⟨_, look_mem _ l1'⟩ h2 h2'
        subst this
        exact hh'.uniq b b' j hb hb' h1 h1'
      · obtain ⟨av, _, _, l1, _⟩ := hh'.cells b j hb h1
        exact (notback b' id h1' h2' h3' _ (look_mem _ l1) h2).elim
    · rcases origin b' id hb' hk' with ⟨j', h1', h2'⟩ | ⟨h1', h2', h3'⟩
      · obtain ⟨av, _, _, l1, _⟩ := hh'.cells b' j' hb' h1'
        exact (notback b id h1 h2 h3 _ (look_mem _ l1) h2').elim
      · exact hh.uniq b b' id h1 h1' h2 h2'

end
end Go.Av
