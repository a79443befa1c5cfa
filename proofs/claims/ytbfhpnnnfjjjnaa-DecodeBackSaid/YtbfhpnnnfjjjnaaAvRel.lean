/- What the abstract values of Av say of the model's values and memory, and what keeps it true. -/
import Derived.Test.YtbfhpnnnfjjjnaaAvBase
namespace Go.Av
open Go

/-- What a block of memory is to a frame: fixed; a box of its own; a row of its own whose first cells are fixed. -/
inductive Kind where
  | old
  | far (used : Nat)
  | box (id : Nat)
  | row (id used : Nat)

/-- Blocks that a frame never writes to. -/
def Kind.fixed : Kind → Bool
  | .old | .far _ => true
  | _ => false

abbrev Kinds := Nat → Kind

def StabK (k : Kind) (o : Nat) : Prop :=
  match k with
  | .old => True
  | .far u => o < u
  | .box _ => False
  | .row _ u => o < u

def Stab (K : Kinds) (b o : Nat) : Prop := StabK (K b) o

/-- These cells lie at an address, fixed. -/
def At (w : World) (K : Kinds) (a : Addr) (cs : List Value) : Prop :=
  ∀ j v, cs[j]? = some v → a.spot = none ∧ w.cell? ⟨a.block, a.off + j, none⟩ = some v ∧ Stab K a.block (a.off + j)

def RL {α : Type} (R : α → List Value → Prop) : List α → List Value → Prop
  | [], cs => cs = []
  | x :: xs, cs => ∃ c1 c2, cs = c1 ++ c2 ∧ R x c1 ∧ RL R xs c2

def RT (w : World) (K : Kinds) : (t : Ty) → t.den → List Value → Prop
  | .unit, _, cs => cs = []
  | .pair a b, x, cs => ∃ c1 c2, cs = c1 ++ c2 ∧ RT w K a x.1 c1 ∧ RT w K b x.2 c2
  | .arr n e, x, cs => List.length x = n ∧ RL (RT w K e) x cs
  | .int k, n, cs => cs = [.int k n]
  | .bool, b, cs => cs = [.bool b]
  | .str, s, cs => cs = [.string ⟨⟨s⟩⟩]
  | .func, f, cs => cs = [fnVal f]
  | .sl e, xs, cs => ∃ A len cap, cs = [.slice A len cap] ∧ len = List.length xs ∧ len ≤ cap ∧ (A = none → cap = 0) ∧
      ∀ a, A = some a → ∃ cc, RL (RT w K e) xs cc ∧ At w K a cc

def Own (w : World) (K : Kinds) (id sz : Nat) (A : Option Addr) (len cap : Nat) : Prop :=
  A = none ∨ len = cap ∨ ∃ a, A = some a ∧ a.spot = none ∧ K a.block = .row id (a.off + len * sz) ∧
    ∃ arr T, w.heap[a.block]? = some (.cells arr T (0, 0)) ∧ a.off + cap * sz ≤ arr.size

def RS (w : World) (K : Kinds) : (s : Sh) → s.den → List Value → Prop
  | .ty t, x, cs => RT w K t x cs
  | .pair a b, x, cs => ∃ c1 c2, cs = c1 ++ c2 ∧ RS w K a x.1 c1 ∧ RS w K b x.2 c2
  | .osl id e, xs, cs => RT w K (.sl e) xs cs ∧ ∀ A len cap, cs = [.slice A len cap] → Own w K id e.size A len cap
  | .box id off, _, cs => ∃ b, cs = [.pointer (some ⟨b, off, none⟩)] ∧ K b = .box id ∧ b < w.heap.size
  | .boxi id off n e, i, cs => ∃ b, cs = [.pointer (some ⟨b, off + i * e.size, none⟩)] ∧ K b = .box id ∧ b < w.heap.size ∧ i < n
  | .ref t off, x, cs => ∃ a cc, cs = [.pointer (some (a.add off))] ∧ RT w K t x cc ∧ At w K a cc
  | .fn f caps, x, cs => ∃ cc, cs = [.func (.func f) #[] cc.toArray] ∧ RS w K caps x cc
  | .lit v, _, cs => cs = [v] ∧ v.oneCell' = true
  | .tup _, _, _ => False
  | .top, _, cs => ∃ c, cs = [c] ∧ c.oneCell' = true

/-- A value of a frame's slot. -/
def R1 (w : World) (K : Kinds) (s : Sh) (x : s.den) (v : Value) : Prop :=
  RS w K s x v.cells.toList ∧ (s.agg = true → ∃ c, v = .agg c) ∧ (s.agg = false → ∀ c, v ≠ .agg c)

def RTup (w : World) (K : Kinds) : (s : Sh) → s.den → List Value → Prop
  | .pair a b, x, v :: vs => R1 w K a x.1 v ∧ RTup w K b x.2 vs
  | .ty .unit, _, vs => vs = []
  | _, _, _ => False

def RV (w : World) (K : Kinds) (a : AV) (v : Value) : Prop :=
  match a with
  | ⟨.tup s, x⟩ => ∃ vs, v = .tuple vs ∧ RTup w K s x vs.toList
  | ⟨.top, _⟩ => True
  | ⟨s, x⟩ => R1 w K s x v

/-- From one world and its kinds to a later one: what was fixed is as it was. -/
structure Ext (w : World) (K : Kinds) (w' : World) (K' : Kinds) : Prop where
  os : w'.os = w.os
  tape : w'.tape = w.tape
  output : w'.output = w.output
  size : w.heap.size ≤ w'.heap.size
  fix : ∀ b, b < w.heap.size → (K b).fixed = true → K' b = K b ∧ w'.heap[b]? = w.heap[b]?
  stab : ∀ b o, b < w.heap.size → Stab K b o → Stab K' b o ∧ w'.cell? ⟨b, o, none⟩ = w.cell? ⟨b, o, none⟩
  box : ∀ b id, b < w.heap.size → K b = .box id → K' b = .box id
  frz : ∀ a, w'.frozen? a = w.frozen? a

theorem Ext.refl (w : World) (K : Kinds) : Ext w K w K :=
  ⟨rfl, rfl, rfl, Nat.le_refl _, fun _ _ _ => ⟨rfl, rfl⟩, fun _ _ _ h => ⟨h, rfl⟩, fun _ _ _ h => h, fun _ => rfl⟩

theorem Ext.trans {w w' w'' : World} {K K' K'' : Kinds} (h : Ext w K w' K') (g : Ext w' K' w'' K'') : Ext w K w'' K'' where
  os := g.os.trans h.os
  tape := g.tape.trans h.tape
  output := g.output.trans h.output
  size := Nat.le_trans h.size g.size
  fix := fun b hb hk => by
    obtain ⟨h1, h2⟩ := h.fix b hb hk
    obtain ⟨g1, g2⟩ := g.fix b (Nat.lt_of_lt_of_le hb h.size) (by rw [h1]; exact hk)
    exact ⟨g1.trans h1, g2.trans h2⟩
  stab := fun b o hb hk => by
    obtain ⟨h1, h2⟩ := h.stab b o hb hk
    obtain ⟨g1, g2⟩ := g.stab b o (Nat.lt_of_lt_of_le hb h.size) h1
    exact ⟨g1, g2.trans h2⟩
  box := fun b id hb hk => g.box b id (Nat.lt_of_lt_of_le hb h.size) (h.box b id hb hk)
  frz := fun a => (g.frz a).trans (h.frz a)

theorem cell_lt {w : World} {a : Addr} {v : Value} (h : w.cell? a = some v) : a.block < w.heap.size := by
  unfold World.cell? at h
  rcases Nat.lt_or_ge a.block w.heap.size with h' | h'
  · exact h'
  · rw [Array.getElem?_eq_none h'] at h; simp at h

/-- What was fixed is as it was. -/
def Keep (w : World) (K : Kinds) (w' : World) (K' : Kinds) : Prop :=
  ∀ b o, b < w.heap.size → Stab K b o → Stab K' b o ∧ w'.cell? ⟨b, o, none⟩ = w.cell? ⟨b, o, none⟩

theorem At.ext {w w' : World} {K K' : Kinds} (g : Keep w K w' K') {a : Addr} {cs : List Value} (h : At w K a cs) : At w' K' a cs := by
  intro j v hj
  obtain ⟨h1, h2, h3⟩ := h j v hj
  obtain ⟨g1, g2⟩ := g a.block (a.off + j) (cell_lt (a := ⟨a.block, a.off + j, none⟩) h2) h3
  exact ⟨h1, g2.trans h2, g1⟩

theorem RL.imp {α : Type} {R R' : α → List Value → Prop} (h : ∀ x cs, R x cs → R' x cs) : ∀ (xs : List α) (cs : List Value), RL R xs cs → RL R' xs cs
  | [], _, hh => hh
  | _ :: xs, _, ⟨c1, c2, e, h1, h2⟩ => ⟨c1, c2, e, h _ _ h1, RL.imp h xs c2 h2⟩

theorem RT.ext {w w' : World} {K K' : Kinds} (g : Keep w K w' K') : ∀ (t : Ty) (x : t.den) (cs : List Value), RT w K t x cs → RT w' K' t x cs
  | .unit, _, _, h => h
  | .pair a b, x, _, ⟨c1, c2, e, h1, h2⟩ => ⟨c1, c2, e, RT.ext g a x.1 c1 h1, RT.ext g b x.2 c2 h2⟩
  | .arr _ e, x, cs, ⟨h1, h2⟩ => ⟨h1, RL.imp (RT.ext g e) x cs h2⟩
  | .int _, _, _, h => h
  | .bool, _, _, h => h
  | .str, _, _, h => h
  | .func, _, _, h => h
  | .sl e, xs, _, ⟨A, len, cap, h1, h2, h3, h4, h5⟩ =>
    ⟨A, len, cap, h1, h2, h3, h4, fun a ha => let ⟨cc, k1, k2⟩ := h5 a ha; ⟨cc, RL.imp (RT.ext g e) xs cc k1, k2.ext g⟩⟩

theorem RL.length {α : Type} {R : α → List Value → Prop} {n : Nat} (h : ∀ x cs, R x cs → cs.length = n) : ∀ (xs : List α) (cs : List Value), RL R xs cs → cs.length = xs.length * n
  | [], _, hh => by cases hh; simp
  | _ :: xs, _, ⟨c1, c2, e, h1, h2⟩ => by
    subst e
    simp only [List.length_append, List.length_cons, h _ _ h1, RL.length h xs c2 h2, Nat.succ_mul]
    omega

theorem RT.length {w : World} {K : Kinds} : ∀ (t : Ty) (x : t.den) (cs : List Value), RT w K t x cs → cs.length = t.size
  | .unit, _, _, h => by rw [show _ = [] from h]; rfl
  | .pair a b, x, _, ⟨c1, c2, e, h1, h2⟩ => by subst e; simp [Ty.size, RT.length a x.1 c1 h1, RT.length b x.2 c2 h2]
  | .arr n e, x, cs, ⟨h1, h2⟩ => by rw [RL.length (RT.length e) x cs h2, h1]; rfl
  | .int _, _, _, h => by rw [show _ = _ from h]; rfl
  | .bool, _, _, h => by rw [show _ = _ from h]; rfl
  | .str, _, _, h => by rw [show _ = _ from h]; rfl
  | .func, _, _, h => by rw [show _ = _ from h]; rfl
  | .sl e, xs, _, ⟨A, len, cap, h1, _⟩ => by rw [h1]; rfl

theorem RS.length {w : World} {K : Kinds} : ∀ (s : Sh) (x : s.den) (cs : List Value), RS w K s x cs → cs.length = s.size
  | .ty t, x, cs, h => RT.length t x cs h
  | .pair a b, x, _, ⟨c1, c2, e, h1, h2⟩ => by subst e; simp [Sh.size, RS.length a x.1 c1 h1, RS.length b x.2 c2 h2]
  | .osl id e, xs, cs, ⟨h1, _⟩ => RT.length (.sl e) xs cs h1
  | .box _ _, _, _, ⟨b, h, _⟩ => by rw [h]; rfl
  | .boxi _ _ _ _, _, _, ⟨b, h, _⟩ => by rw [h]; rfl
  | .ref _ _, _, _, ⟨a, cc, h, _⟩ => by rw [h]; rfl
  | .fn _ _, _, _, ⟨cc, h, _⟩ => by rw [h]; rfl
  | .lit _, _, _, h => by rw [h.1]; rfl
  | .tup _, _, _, h => h.elim
  | .top, _, _, ⟨c, h, _⟩ => by rw [h]; rfl

theorem Ty.size_pos : ∀ t : Ty, t.agg = false → t.size = 1
  | .unit, h => by cases h
  | .pair .., h => by cases h
  | .arr .., h => by cases h
  | .int _, _ => rfl
  | .bool, _ => rfl
  | .str, _ => rfl
  | .func, _ => rfl
  | .sl _, _ => rfl

theorem Sh.size_pos : ∀ s : Sh, s.agg = false → s.size = 1
  | .ty t, h => Ty.size_pos t h
  | .pair .., h => by cases h
  | .osl .., _ => rfl
  | .box .., _ => rfl
  | .boxi .., _ => rfl
  | .ref .., _ => rfl
  | .fn .., _ => rfl
  | .lit _, _ => rfl
  | .tup _, _ => rfl
  | .top, _ => rfl

/-- Rows' tags that a step leaves alone. -/
def Sh.tags : Sh → List Nat
  | .pair a b => a.tags ++ b.tags
  | .osl id _ => [id]
  | .fn _ caps => caps.tags
  | .tup a => a.tags
  | _ => []

/-- A later world, in which the rows of the tags given are as they were. -/
theorem RS.ext {w w' : World} {K K' : Kinds} (g : Ext w K w' K') (hr : ∀ b id u, b < w.heap.size → K b = .row id u → K' b = .row id u ∧ w'.heap[b]? = w.heap[b]?) :
    ∀ (s : Sh) (x : s.den) (cs : List Value), RS w K s x cs → RS w' K' s x cs
  | .ty t, x, cs, h => RT.ext g.stab t x cs h
  | .pair a b, x, _, ⟨c1, c2, e, h1, h2⟩ => ⟨c1, c2, e, RS.ext g hr a x.1 c1 h1, RS.ext g hr b x.2 c2 h2⟩
  | .osl id e, xs, cs, ⟨h1, h2⟩ => ⟨RT.ext g.stab (.sl e) xs cs h1, fun A len cap hc => by
      rcases h2 A len cap hc with h | h | ⟨a, ha, hs, hk, arr, T, hh, hle⟩
      · exact .inl h
      · exact .inr (.inl h)
      · have hlt : a.block < w.heap.size := by
          rcases Nat.lt_or_ge a.block w.heap.size with h' | h'
          · exact h'
          · rw [Array.getElem?_eq_none h'] at hh; cases hh
        obtain ⟨k1, k2⟩ := hr _ _ _ hlt hk
        exact .inr (.inr ⟨a, ha, hs, k1, arr, T, k2.trans hh, hle⟩)⟩
  | .box id off, _, _, ⟨b, h, hk, hb⟩ => ⟨b, h, g.box b id hb hk, Nat.lt_of_lt_of_le hb g.size⟩
  | .boxi id off n e, i, _, ⟨b, h, hk, hb, hi⟩ => ⟨b, h, g.box b id hb hk, Nat.lt_of_lt_of_le hb g.size, hi⟩
  | .ref t _, x, _, ⟨a, cc, h, h1, h2⟩ => ⟨a, cc, h, RT.ext g.stab t x cc h1, h2.ext g.stab⟩
  | .fn _ caps, x, _, ⟨cc, h, h1⟩ => ⟨cc, h, RS.ext g hr caps x cc h1⟩
  | .lit _, _, _, h => h
  | .tup _, _, _, h => h.elim
  | .top, _, _, h => h

theorem RL.one {α : Type} {R : α → List Value → Prop} (h : ∀ x cs, R x cs → ∀ c ∈ cs, c.oneCell' = true) : ∀ (xs : List α) (cs : List Value), RL R xs cs → ∀ c ∈ cs, c.oneCell' = true
  | [], _, hh, c, hc => by rw [show _ = [] from hh] at hc; cases hc
  | _ :: xs, _, ⟨c1, c2, e, h1, h2⟩, c, hc => by
    subst e
    rcases List.mem_append.1 hc with hc | hc
    · exact h _ _ h1 c hc
    · exact RL.one h xs c2 h2 c hc

theorem RT.one {w : World} {K : Kinds} : ∀ (t : Ty) (x : t.den) (cs : List Value), RT w K t x cs → ∀ c ∈ cs, c.oneCell' = true
  | .unit, _, _, h, c, hc => by rw [show _ = [] from h] at hc; cases hc
  | .pair a b, x, _, ⟨c1, c2, e, h1, h2⟩, c, hc => by
    subst e
    rcases List.mem_append.1 hc with hc | hc
    · exact RT.one a x.1 c1 h1 c hc
    · exact RT.one b x.2 c2 h2 c hc
  | .arr n e, x, cs, ⟨_, h2⟩, c, hc => RL.one (RT.one e) x cs h2 c hc
  | .int _, _, _, h, c, hc => by rw [show _ = _ from h] at hc; simp at hc; subst hc; rfl
  | .bool, _, _, h, c, hc => by rw [show _ = _ from h] at hc; simp at hc; subst hc; rfl
  | .str, _, _, h, c, hc => by rw [show _ = _ from h] at hc; simp at hc; subst hc; rfl
  | .func, f, _, h, c, hc => by rw [show _ = _ from h] at hc; simp at hc; subst hc; cases f <;> rfl
  | .sl e, xs, _, ⟨A, len, cap, h1, _⟩, c, hc => by rw [h1] at hc; simp at hc; subst hc; rfl

theorem RS.one {w : World} {K : Kinds} : ∀ (s : Sh) (x : s.den) (cs : List Value), RS w K s x cs → ∀ c ∈ cs, c.oneCell' = true
  | .ty t, x, cs, h, c, hc => RT.one t x cs h c hc
  | .pair a b, x, _, ⟨c1, c2, e, h1, h2⟩, c, hc => by
    subst e
    rcases List.mem_append.1 hc with hc | hc
    · exact RS.one a x.1 c1 h1 c hc
    · exact RS.one b x.2 c2 h2 c hc
  | .osl id e, xs, cs, ⟨h1, _⟩, c, hc => RT.one (.sl e) xs cs h1 c hc
  | .box _ _, _, _, ⟨b, h, _⟩, c, hc => by rw [h] at hc; simp at hc; subst hc; rfl
  | .boxi _ _ _ _, _, _, ⟨b, h, _⟩, c, hc => by rw [h] at hc; simp at hc; subst hc; rfl
  | .ref _ _, _, _, ⟨a, cc, h, _⟩, c, hc => by rw [h] at hc; simp at hc; subst hc; rfl
  | .fn _ _, _, _, ⟨cc, h, _⟩, c, hc => by rw [h] at hc; simp at hc; subst hc; rfl
  | .lit _, _, _, h, c, hc => by rw [h.1] at hc; simp at hc; subst hc; exact h.2
  | .tup _, _, _, h, _, _ => h.elim
  | .top, _, _, ⟨c', h, h'⟩, c, hc => by rw [h] at hc; simp at hc; subst hc; exact h'

theorem mkPair_RS {w : World} {K : Kinds} {a b : AV} {c1 c2 : List Value} (h1 : RS w K a.sh a.v c1) (h2 : RS w K b.sh b.v c2) :
    RS w K (AV.mkPair a b).sh (AV.mkPair a b).v (c1 ++ c2) := by
  obtain ⟨s, x⟩ := a
  obtain ⟨t, y⟩ := b
  cases s <;> cases t <;> exact ⟨c1, c2, rfl, h1, h2⟩

theorem mkPair_agg (a b : AV) : (AV.mkPair a b).sh.agg = true := by
  obtain ⟨s, x⟩ := a
  obtain ⟨t, y⟩ := b
  cases s <;> cases t <;> rfl

theorem mkPair_size (a b : AV) : (AV.mkPair a b).sh.size = a.sh.size + b.sh.size := by
  obtain ⟨s, x⟩ := a
  obtain ⟨t, y⟩ := b
  cases s <;> cases t <;> rfl

theorem split_RS {w : World} {K : Kinds} {a p q : AV} {cs : List Value} (h : a.split = some (p, q)) (hr : RS w K a.sh a.v cs) :
    ∃ c1 c2, cs = c1 ++ c2 ∧ RS w K p.sh p.v c1 ∧ RS w K q.sh q.v c2 := by
  obtain ⟨s, x⟩ := a
  cases s <;> simp only [AV.split] at h <;> try cases h
  case ty t =>
    cases t <;> simp only [] at h <;> try cases h
    exact hr
  case pair => exact hr

theorem nilFn_eq {v : Value} (h : nilFn v = true) : v = .nilFunc := by
  unfold nilFn at h
  split at h
  · rfl
  · cases h

theorem noCaps_eq {s : Sh} (h : s.noCaps = true) : s = .ty .unit := by
  unfold Sh.noCaps at h
  split at h
  · rfl
  · cases h

theorem nilSl_eq {v : Value} (h : nilSl v = true) : v = .slice none 0 0 := by
  unfold nilSl at h
  split at h
  · rfl
  · cases h

theorem as_RT {w : World} {K : Kinds} : ∀ (s : Sh) (x : s.den) (t : Ty) (y : t.den) (cs : List Value), s.as x t = some y → RS w K s x cs → RT w K t y cs := by
  intro s
  induction s with
  | ty s =>
    intro x t y cs h hr
    simp only [Sh.as] at h
    split at h
    · rename_i e _
      subst e
      cases h
      exact hr
    · cases h
  | pair a b iha ihb =>
    intro x t y cs h hr
    cases t <;> simp only [Sh.as] at h <;> try cases h
    rename_i c d
    obtain ⟨c1, c2, e, h1, h2⟩ := hr
    split at h
    · rename_i y1 y2 e1 e2
      cases h
      exact ⟨c1, c2, e, iha _ _ _ _ e1 h1, ihb _ _ _ _ e2 h2⟩
    · cases h
  | osl id e =>
    intro x t y cs h hr
    cases t <;> simp only [Sh.as] at h <;> try cases h
    split at h
    · rename_i e' _
      subst e'
      cases h
      exact hr.1
    · cases h
  | lit v =>
    intro x t y cs h hr
    obtain ⟨hr, _⟩ := hr
    subst hr
    cases t <;> simp only [Sh.as] at h <;> try cases h
    · split at h
      · rename_i hn
        cases h
        rw [nilFn_eq hn]
        rfl
      · cases h
    · split at h
      · rename_i hn
        cases h
        rw [nilSl_eq hn]
        exact ⟨none, 0, 0, rfl, rfl, Nat.le_refl _, fun _ => rfl, fun a ha => by cases ha⟩
      · cases h
  | box id off => intro x t y cs h hr; cases t <;> cases h
  | boxi => intro x t y cs h hr; cases t <;> cases h
  | ref => intro x t y cs h hr; cases t <;> cases h
  | fn f caps =>
    intro x t y cs h hr
    cases t <;> simp only [Sh.as] at h <;> try cases h
    split at h
    · rename_i hn
      cases h
      cases noCaps_eq hn
      obtain ⟨cc, h1, h2⟩ := hr
      rw [h1, show cc = [] from h2]
      rfl
    · cases h
  | tup => intro x t y cs h hr; cases t <;> cases h
  | top => intro x t y cs h hr; cases t <;> cases h

/-- Tags renamed, in a later world in which the rows and boxes of the tags that stay are what they were, under their new names. -/
theorem RS.ren {w w' : World} {K K' : Kinds} {ρ σ : Nat → Option Nat} (g : Keep w K w' K') (hs : w.heap.size ≤ w'.heap.size)
    (hr : ∀ b id u j, b < w.heap.size → K b = .row id u → ρ id = some j → K' b = .row j u ∧ w'.heap[b]? = w.heap[b]?)
    (hb : ∀ b id j, b < w.heap.size → K b = .box id → σ id = some j → K' b = .box j) :
    ∀ (s : Sh) (x : s.den) (cs : List Value), RS w K s x cs → RS w' K' (s.ren ρ σ x).sh (s.ren ρ σ x).v cs
  | .ty t, x, cs, h => RT.ext g t x cs h
  | .pair a b, x, _, ⟨c1, c2, e, h1, h2⟩ => by
    subst e
    exact mkPair_RS (RS.ren g hs hr hb a x.1 c1 h1) (RS.ren g hs hr hb b x.2 c2 h2)
  | .osl id e, xs, cs, ⟨h1, h2⟩ => by
    have h1' := RT.ext g (.sl e) xs cs h1
    simp only [Sh.ren]
    cases hid : ρ id with
    | none => exact h1'
    | some j =>
      refine ⟨h1', fun A len cap hc => ?_⟩
      rcases h2 A len cap hc with h | h | ⟨a, ha, hsp, hk, arr, T, hh, hle⟩
      · exact .inl h
      · exact .inr (.inl h)
      · have hlt : a.block < w.heap.size := by
          rcases Nat.lt_or_ge a.block w.heap.size with h' | h'
          · exact h'
          · rw [Array.getElem?_eq_none h'] at hh; cases hh
        obtain ⟨k1, k2⟩ := hr _ _ _ _ hlt hk hid
        exact .inr (.inr ⟨a, ha, hsp, k1, arr, T, k2.trans hh, hle⟩)
  | .box id off, _, _, ⟨b, h, hk, hlt⟩ => by
    simp only [Sh.ren]
    cases hid : σ id with
    | none => exact ⟨_, h, rfl⟩
    | some j => exact ⟨b, h, hb b id j hlt hk hid, Nat.lt_of_lt_of_le hlt hs⟩
  | .boxi id off n e, i, _, ⟨b, h, hk, hlt, hi⟩ => by
    simp only [Sh.ren]
    cases hid : σ id with
    | none => exact ⟨_, h, rfl⟩
    | some j => exact ⟨b, h, hb b id j hlt hk hid, Nat.lt_of_lt_of_le hlt hs, hi⟩
  | .ref t _, x, _, ⟨a, cc, h, h1, h2⟩ => ⟨a, cc, h, RT.ext g t x cc h1, h2.ext g⟩
  | .fn _ caps, x, _, ⟨cc, h, h1⟩ => ⟨cc, h, RS.ren g hs hr hb caps x cc h1⟩
  | .lit _, _, _, h => h
  | .tup _, _, _, h => h.elim
  | .top, _, _, h => h

theorem ren_agg (ρ σ : Nat → Option Nat) : ∀ (s : Sh) (x : s.den), (s.ren ρ σ x).sh.agg = s.agg
  | .ty _, _ => rfl
  | .pair _ _, _ => mkPair_agg _ _
  | .osl id e, _ => by simp only [Sh.ren]; cases ρ id <;> rfl
  | .box id off, _ => by simp only [Sh.ren]; cases σ id <;> rfl
  | .boxi id off n e, _ => by simp only [Sh.ren]; cases σ id <;> rfl
  | .ref _ _, _ => rfl
  | .fn _ _, _ => rfl
  | .lit _, _ => rfl
  | .tup _, _ => rfl
  | .top, _ => rfl

theorem R1.toRV {w : World} {K : Kinds} {a : AV} {v : Value} (h : R1 w K a.sh a.v v) : RV w K a v := by
  obtain ⟨s, x⟩ := a
  cases s
  case tup => exact h.1.elim
  case top => trivial
  all_goals exact h

section
variable {w w' : World} {K K' : Kinds} {ρ σ : Nat → Option Nat} (g : Keep w K w' K') (hs : w.heap.size ≤ w'.heap.size)
    (hr : ∀ b id u j, b < w.heap.size → K b = .row id u → ρ id = some j → K' b = .row j u ∧ w'.heap[b]? = w.heap[b]?)
    (hb : ∀ b id j, b < w.heap.size → K b = .box id → σ id = some j → K' b = .box j)
include g hs hr hb

theorem R1.ren (s : Sh) (x : s.den) (v : Value) (h : R1 w K s x v) : R1 w' K' (s.ren ρ σ x).sh (s.ren ρ σ x).v v :=
  ⟨RS.ren g hs hr hb s x _ h.1, by rw [ren_agg]; exact h.2.1, by rw [ren_agg]; exact h.2.2⟩

theorem RTup.ren : ∀ (s : Sh) (x : s.den) (vs : List Value), RTup w K s x vs → RTup w' K' (s.renT ρ σ x).sh (s.renT ρ σ x).v vs := by
  intro s
  induction s with
  | pair a b _ ihb =>
    intro x vs hh
    cases vs with
    | nil => exact hh.elim
    | cons v vs => exact ⟨R1.ren g hs hr hb a x.1 v hh.1, ihb x.2 vs hh.2⟩
  | ty t => intro x vs hh; cases t <;> first | exact hh | exact hh.elim
  | osl => intro x vs hh; exact hh.elim
  | box => intro x vs hh; exact hh.elim
  | boxi => intro x vs hh; exact hh.elim
  | ref => intro x vs hh; exact hh.elim
  | fn => intro x vs hh; exact hh.elim
  | lit => intro x vs hh; exact hh.elim
  | tup => intro x vs hh; exact hh.elim
  | top => intro x vs hh; exact hh.elim

theorem RV.ren {a : AV} {v : Value} (h : RV w K a v) : RV w' K' (a.ren ρ σ) v := by
  obtain ⟨s, x⟩ := a
  cases s
  case tup s => obtain ⟨vs, e, hh⟩ := h; exact ⟨vs, e, RTup.ren g hs hr hb s x _ hh⟩
  case top => trivial
  all_goals exact R1.toRV (R1.ren g hs hr hb _ x v h)
end

end Go.Av
