/- Parts of abstract values: reading and replacing them says the same of the cells. -/
import Derived.Test.YtbfhpnnnfjjjnaaAvRel
namespace Go.Av
open Go

section
variable {w : World} {K : Kinds}

theorem RL.get {α : Type} {R : α → List Value → Prop} {n : Nat} (hn : ∀ x cs, R x cs → cs.length = n) (d : α) : ∀ (xs : List α) (cs : List Value) (i : Nat), RL R xs cs → i < xs.length →
    R (xs.getD i d) ((cs.drop (i * n)).take n)
  | [], _, i, _, hi => by simp at hi
  | x :: xs, _, 0, ⟨c1, c2, e, h1, h2⟩, _ => by
    subst e
    have := hn _ _ h1
    simp [← this, h1]
  | x :: xs, _, i + 1, ⟨c1, c2, e, h1, h2⟩, hi => by
    subst e
    have h := RL.get hn d xs c2 i h2 (by simpa using hi)
    have h3 := hn _ _ h1
    have : (c1 ++ c2).drop ((i + 1) * n) = c2.drop (i * n) := by
      rw [List.drop_append, Nat.succ_mul, h3]
      simp [show i * n + n - n = i * n by omega, show c1.drop (i * n + n) = [] by simp [h3]]
    rw [this]
    simpa using h

theorem RL.set {α : Type} {R : α → List Value → Prop} {n : Nat} (hn : ∀ x cs, R x cs → cs.length = n) : ∀ (xs : List α) (cs : List Value) (i : Nat) (u : α) (cu : List Value), RL R xs cs → i < xs.length → R u cu →
    RL R (xs.set i u) (cs.take (i * n) ++ cu ++ cs.drop (i * n + n))
  | [], _, i, _, _, _, hi, _ => by simp at hi
  | x :: xs, _, 0, u, cu, ⟨c1, c2, e, h1, h2⟩, _, hu => by
    subst e
    have h3 := hn _ _ h1
    refine ⟨cu, c2, ?_, hu, h2⟩
    simp [← h3]
  | x :: xs, _, i + 1, u, cu, ⟨c1, c2, e, h1, h2⟩, hi, hu => by
    subst e
    have h := RL.set hn xs c2 i u cu h2 (by simpa using hi) hu
    have h3 := hn _ _ h1
    refine ⟨c1, _, ?_, h1, h⟩
    rw [List.take_append, List.drop_append, Nat.succ_mul, h3]
    simp [show i * n + n - n = i * n by omega, show i * n + n + n - n = i * n + n by omega, show c1.take (i * n + n) = c1 from List.take_of_length_le (by omega),
      show c1.drop (i * n + n + n) = [] from List.drop_of_length_le (by omega)]

theorem RL.append {α : Type} {R : α → List Value → Prop} : ∀ {xs ys : List α} {c1 c2 : List Value}, RL R xs c1 → RL R ys c2 → RL R (xs ++ ys) (c1 ++ c2)
  | [], _, _, _, h1, h2 => by rw [show _ = [] from h1]; exact h2
  | _ :: _, _, _, _, ⟨a, b, e, h, h'⟩, h2 => ⟨a, b ++ _, by rw [e, List.append_assoc], h, RL.append h' h2⟩

theorem RL.split {α : Type} {R : α → List Value → Prop} {n : Nat} (hn : ∀ x cs, R x cs → cs.length = n) : ∀ (xs : List α) (cs : List Value) (i : Nat), RL R xs cs → i ≤ xs.length →
    RL R (xs.take i) (cs.take (i * n)) ∧ RL R (xs.drop i) (cs.drop (i * n))
  | xs, cs, 0, h, _ => by simp [RL]; exact h
  | [], _, i + 1, _, hi => by simp at hi
  | x :: xs, _, i + 1, ⟨c1, c2, e, h1, h2⟩, hi => by
    subst e
    obtain ⟨g1, g2⟩ := RL.split hn xs c2 i h2 (by simpa using hi)
    have h3 := hn _ _ h1
    have e1 : (c1 ++ c2).take ((i + 1) * n) = c1 ++ c2.take (i * n) := by
      rw [List.take_append, Nat.succ_mul, h3, List.take_of_length_le (by omega)]
      simp
    have e2 : (c1 ++ c2).drop ((i + 1) * n) = c2.drop (i * n) := by
      rw [List.drop_append, Nat.succ_mul, h3, List.drop_of_length_le (by omega)]
      simp
    rw [e1, e2]
    exact ⟨⟨c1, _, rfl, h1, g1⟩, g2⟩

theorem drop_mid {α : Type} (D : List α) (m n : Nat) (h : m ≤ n) (hl : n ≤ D.length) : D.drop m = (D.take n).drop m ++ D.drop n := by
  conv => lhs; rw [← List.take_append_drop n D]
  rw [List.drop_append_of_le_length (by rw [List.length_take]; omega)]

theorem Ty.sub_RT : ∀ (t : Ty) (x : t.den) (off n : Nat) (g : Bool) (av : AV) (cs : List Value), Ty.sub t x off n g = some av → RT w K t x cs →
    RS w K av.sh av.v ((cs.drop off).take n) ∧ av.sh.agg = g ∧ off + n ≤ t.size := by
  intro t
  induction t with
  | unit =>
    intro x off n g av cs h hr
    simp only [Ty.sub] at h
    split at h
    · rename_i e
      simp at e
      cases h
      obtain ⟨e1, e2, e3⟩ := e
      subst e1 e2 e3
      cases hr
      exact ⟨rfl, rfl, Nat.le_refl _⟩
    · cases h
  | pair a b iha ihb =>
    intro x off n g av cs h hr
    obtain ⟨c1, c2, e, h1, h2⟩ := hr
    have l1 := RT.length a _ _ h1
    have l2 := RT.length b _ _ h2
    subst e
    simp only [Ty.sub] at h
    split at h
    · rename_i e
      simp at e
      cases h
      obtain ⟨e1, e2, e3, _⟩ := e
      subst e1 e2 e3
      refine ⟨⟨c1, c2, ?_, h1, h2⟩, rfl, Nat.le_of_eq (by simp [Ty.size])⟩
      rw [List.drop_zero, List.take_of_length_le (by simp [l1, l2])]
    · split at h
      · split at h
        · rename_i hlt hle
          obtain ⟨i1, i2, i3⟩ := iha _ _ _ _ _ _ h h1
          refine ⟨?_, i2, by simp only [Ty.size]; omega⟩
          rw [List.drop_append, List.take_append_of_le_length (by simp [l1]; omega)]
          exact i1
        · cases h
      · rename_i e hge
        obtain ⟨i1, i2, i3⟩ := ihb _ _ _ _ _ _ h h2
        refine ⟨?_, i2, by simp only [Ty.size]; omega⟩
        rw [List.drop_append, List.drop_of_length_le (by omega), List.nil_append, l1]
        exact i1
  | arr k e ih =>
    intro x off n g av cs h hr
    obtain ⟨hk, hl⟩ := hr
    have ll := RL.length (RT.length e) x cs hl
    simp only [Ty.sub] at h
    split at h
    · rename_i c
      simp at c
      cases h
      obtain ⟨e1, e2, e3⟩ := c
      subst e1 e2 e3
      refine ⟨⟨hk, ?_⟩, rfl, Nat.le_of_eq (by simp [Ty.size])⟩
      rw [List.drop_zero, List.take_of_length_le (by rw [ll, hk]; exact Nat.le_refl _)]
      exact hl
    · split at h
      · rename_i c
        obtain ⟨c1, c2, c3⟩ := c
        have hg := RL.get (RT.length e) e.dflt x cs (off / e.size) hl (by omega)
        obtain ⟨i1, i2, i3⟩ := ih _ _ _ _ _ _ h hg
        have hdm := Nat.div_add_mod off e.size
        have hcomm : off / e.size * e.size = e.size * (off / e.size) := Nat.mul_comm _ _
        refine ⟨?_, i2, ?_⟩
        · have : (((cs.drop (off / e.size * e.size)).take e.size).drop (off % e.size)).take n = (cs.drop off).take n := by
            rw [List.drop_take, List.drop_drop, List.take_take, show off / e.size * e.size + off % e.size = off by omega, show min n (e.size - off % e.size) = n by omega]
          rwa [this] at i1
        · have h1 : (off / e.size + 1) * e.size ≤ k * e.size := Nat.mul_le_mul_right _ c1
          simp only [Ty.size]
          rw [Nat.succ_mul] at h1
          omega
      · cases h
  | int k =>
    intro x off n g av cs h hr
    simp only [Ty.sub] at h
    split at h
    · rename_i c
      simp at c
      cases h
      obtain ⟨e1, e2, e3⟩ := c
      subst e1 e2 e3
      refine ⟨?_, rfl, Nat.le_refl _⟩
      have hlen := RT.length _ _ _ hr
      rw [List.drop_zero, List.take_of_length_le (by rw [hlen]; exact Nat.le_refl _)]
      exact hr
    · cases h
  | bool =>
    intro x off n g av cs h hr
    simp only [Ty.sub] at h
    split at h
    · rename_i c
      simp at c
      cases h
      obtain ⟨e1, e2, e3⟩ := c
      subst e1 e2 e3
      refine ⟨?_, rfl, Nat.le_refl _⟩
      have hlen := RT.length _ _ _ hr
      rw [List.drop_zero, List.take_of_length_le (by rw [hlen]; exact Nat.le_refl _)]
      exact hr
    · cases h
  | str =>
    intro x off n g av cs h hr
    simp only [Ty.sub] at h
    split at h
    · rename_i c
      simp at c
      cases h
      obtain ⟨e1, e2, e3⟩ := c
      subst e1 e2 e3
      refine ⟨?_, rfl, Nat.le_refl _⟩
      have hlen := RT.length _ _ _ hr
      rw [List.drop_zero, List.take_of_length_le (by rw [hlen]; exact Nat.le_refl _)]
      exact hr
    · cases h
  | func =>
    intro x off n g av cs h hr
    simp only [Ty.sub] at h
    split at h
    · rename_i c
      simp at c
      cases h
      obtain ⟨e1, e2, e3⟩ := c
      subst e1 e2 e3
      refine ⟨?_, rfl, Nat.le_refl _⟩
      have hlen := RT.length _ _ _ hr
      rw [List.drop_zero, List.take_of_length_le (by rw [hlen]; exact Nat.le_refl _)]
      exact hr
    · cases h
  | sl e _ =>
    intro x off n g av cs h hr
    simp only [Ty.sub] at h
    split at h
    · rename_i c
      simp at c
      cases h
      obtain ⟨e1, e2, e3⟩ := c
      subst e1 e2 e3
      refine ⟨?_, rfl, Nat.le_refl _⟩
      have hlen := RT.length _ _ _ hr
      rw [List.drop_zero, List.take_of_length_le (by rw [hlen]; exact Nat.le_refl _)]
      exact hr
    · cases h

theorem Sh.sub_RS : ∀ (s : Sh) (x : s.den) (off n : Nat) (g : Bool) (av : AV) (cs : List Value), Sh.sub s x off n g = some av → RS w K s x cs →
    RS w K av.sh av.v ((cs.drop off).take n) ∧ av.sh.agg = g ∧ off + n ≤ s.size := by
  intro s
  induction s with
  | ty t => intro x off n g av cs h hr; exact Ty.sub_RT t x off n g av cs h hr
  | pair a b iha ihb =>
    intro x off n g av cs h hr
    have hr' := hr
    obtain ⟨c1, c2, e, h1, h2⟩ := hr
    have l1 := RS.length a _ _ h1
    have l2 := RS.length b _ _ h2
    subst e
    simp only [Sh.sub] at h
    split at h
    · rename_i e
      simp at e
      cases h
      obtain ⟨e1, e2, e3, _⟩ := e
      subst e1 e2 e3
      refine ⟨⟨c1, c2, ?_, h1, h2⟩, rfl, Nat.le_of_eq (by simp [Sh.size])⟩
      rw [List.drop_zero, List.take_of_length_le (by simp [l1, l2])]
    · split at h
      · split at h
        · rename_i hlt hle
          obtain ⟨i1, i2, i3⟩ := iha _ _ _ _ _ _ h h1
          refine ⟨?_, i2, by simp only [Sh.size]; omega⟩
          rw [List.drop_append, List.take_append_of_le_length (by simp [l1]; omega)]
          exact i1
        · cases h
      · rename_i e hge
        obtain ⟨i1, i2, i3⟩ := ihb _ _ _ _ _ _ h h2
        refine ⟨?_, i2, by simp only [Sh.size]; omega⟩
        rw [List.drop_append, List.drop_of_length_le (by omega), List.nil_append, l1]
        exact i1
  | tup _ _ => intro x off n g av cs h hr; cases h
  | top => intro x off n g av cs h hr; cases h
  | osl id e =>
    intro x off n g av cs h hr
    simp only [Sh.sub] at h
    split at h
    · rename_i c
      simp at c
      cases h
      obtain ⟨e1, e2, e3⟩ := c
      subst e1 e2 e3
      refine ⟨?_, rfl, Nat.le_refl _⟩
      have hlen := RS.length _ _ _ hr
      rw [List.drop_zero, List.take_of_length_le (by rw [hlen]; exact Nat.le_refl _)]
      exact hr
    · cases h
  | box id o =>
    intro x off n g av cs h hr
    simp only [Sh.sub] at h
    split at h
    · rename_i c
      simp at c
      cases h
      obtain ⟨e1, e2, e3⟩ := c
      subst e1 e2 e3
      refine ⟨?_, rfl, Nat.le_refl _⟩
      have hlen := RS.length _ _ _ hr
      rw [List.drop_zero, List.take_of_length_le (by rw [hlen]; exact Nat.le_refl _)]
      exact hr
    · cases h
  | boxi id o m e =>
    intro x off n g av cs h hr
    simp only [Sh.sub] at h
    split at h
    · rename_i c
      simp at c
      cases h
      obtain ⟨e1, e2, e3⟩ := c
      subst e1 e2 e3
      refine ⟨?_, rfl, Nat.le_refl _⟩
      have hlen := RS.length _ _ _ hr
      rw [List.drop_zero, List.take_of_length_le (by rw [hlen]; exact Nat.le_refl _)]
      exact hr
    · cases h
  | ref t o =>
    intro x off n g av cs h hr
    simp only [Sh.sub] at h
    split at h
    · rename_i c
      simp at c
      cases h
      obtain ⟨e1, e2, e3⟩ := c
      subst e1 e2 e3
      refine ⟨?_, rfl, Nat.le_refl _⟩
      have hlen := RS.length _ _ _ hr
      rw [List.drop_zero, List.take_of_length_le (by rw [hlen]; exact Nat.le_refl _)]
      exact hr
    · cases h
  | fn f c _ =>
    intro x off n g av cs h hr
    simp only [Sh.sub] at h
    split at h
    · rename_i c
      simp at c
      cases h
      obtain ⟨e1, e2, e3⟩ := c
      subst e1 e2 e3
      refine ⟨?_, rfl, Nat.le_refl _⟩
      have hlen := RS.length _ _ _ hr
      rw [List.drop_zero, List.take_of_length_le (by rw [hlen]; exact Nat.le_refl _)]
      exact hr
    · cases h
  | lit v =>
    intro x off n g av cs h hr
    simp only [Sh.sub] at h
    split at h
    · rename_i c
      simp at c
      cases h
      obtain ⟨e1, e2, e3⟩ := c
      subst e1 e2 e3
      refine ⟨?_, rfl, Nat.le_refl _⟩
      have hlen := RS.length _ _ _ hr
      rw [List.drop_zero, List.take_of_length_le (by rw [hlen]; exact Nat.le_refl _)]
      exact hr
    · cases h

theorem Ty.upd_RT : ∀ (t : Ty) (x : t.den) (off : Nat) (y z : AV) (cs cy : List Value), Ty.upd t x off y = some z → RT w K t x cs → RS w K y.sh y.v cy →
    RS w K z.sh z.v (cs.take off ++ cy ++ cs.drop (off + y.sh.size)) ∧ z.sh.agg = t.agg ∧ off + y.sh.size ≤ t.size := by
  intro t
  induction t with
  | pair a b iha ihb =>
    intro x off y z cs cy h hr hy
    obtain ⟨c1, c2, e, h1, h2⟩ := hr
    have l1 := RT.length a _ _ h1
    have l2 := RT.length b _ _ h2
    have ly := RS.length _ _ _ hy
    subst e
    simp only [Ty.upd] at h
    split at h
    · rename_i e
      simp at e
      cases h
      obtain ⟨e1, e2, e3, _⟩ := e
      subst e1
      refine ⟨?_, e3, by simp [Ty.size, e2]⟩
      rw [List.take_zero, List.nil_append, Nat.zero_add, List.drop_of_length_le (by simp [l1, l2, e2]), List.append_nil]
      exact hy
    · split at h
      · rename_i e hlt
        split at h
        · rename_i z' hz
          cases h
          obtain ⟨i1, i2, i3⟩ := iha _ _ _ _ _ _ hz h1 hy
          refine ⟨?_, mkPair_agg _ _, by simp only [Ty.size]; omega⟩
          have := mkPair_RS (b := ⟨.ty b, x.2⟩) i1 h2
          rw [List.take_append_of_le_length (by omega), List.drop_append_of_le_length (by omega), ← List.append_assoc]
          exact this
        · cases h
      · rename_i e hge
        split at h
        · rename_i z' hz
          cases h
          obtain ⟨i1, i2, i3⟩ := ihb _ _ _ _ _ _ hz h2 hy
          refine ⟨?_, mkPair_agg _ _, by simp only [Ty.size]; omega⟩
          have := mkPair_RS (a := ⟨.ty a, x.1⟩) h1 i1
          rw [List.take_append, List.drop_append, List.take_of_length_le (by omega), l1, List.drop_of_length_le (show c1.length ≤ off + y.sh.size by omega), List.nil_append,
            show off + y.sh.size - a.size = off - a.size + y.sh.size by omega]
          simpa [List.append_assoc] using this
        · cases h
  | arr k e ih =>
    intro x off y z cs cy h hr hy
    obtain ⟨hk, hl⟩ := hr
    have ll := RL.length (RT.length e) x cs hl
    have ly := RS.length _ _ _ hy
    simp only [Ty.upd] at h
    split at h
    · rename_i c
      simp at c
      cases h
      obtain ⟨e1, e2, e3⟩ := c
      subst e1
      refine ⟨?_, e3, by simp [Ty.size, e2]⟩
      rw [List.take_zero, List.nil_append, Nat.zero_add, List.drop_of_length_le (by rw [ll, e2, hk]; exact Nat.le_refl _), List.append_nil]
      exact hy
    · split at h
      · rename_i c
        obtain ⟨c1, c2⟩ := c
        split at h
        · rename_i z' hz
          split at h
          · rename_i u hu
            cases h
            have hi : off / e.size < List.length x := by omega
            have hg := RL.get (RT.length e) e.dflt x cs (off / e.size) hl hi
            obtain ⟨i1, i2, i3⟩ := ih _ _ _ _ _ _ hz hg hy
            have hdm := Nat.div_add_mod off e.size
            have hcomm : off / e.size * e.size = e.size * (off / e.size) := Nat.mul_comm _ _
            have hub : (off / e.size + 1) * e.size ≤ k * e.size := Nat.mul_le_mul_right _ c1
            rw [Nat.succ_mul] at hub
            refine ⟨⟨by simpa using hk, ?_⟩, rfl, by simp only [Ty.size]; omega⟩
            have hs := RL.set (RT.length e) x cs (off / e.size) u _ hl hi (as_RT _ _ _ _ _ hu i1)
            have hcl : cs.length = k * e.size := by rw [ll, hk]
            have : cs.take (off / e.size * e.size) ++ (((cs.drop (off / e.size * e.size)).take e.size).take (off % e.size) ++ cy ++ ((cs.drop (off / e.size * e.size)).take e.size).drop (off % e.size + y.sh.size))
                ++ cs.drop (off / e.size * e.size + e.size) = cs.take off ++ cy ++ cs.drop (off + y.sh.size) := by
              have e1 : ((cs.drop (off / e.size * e.size)).take e.size).take (off % e.size) = (cs.drop (off / e.size * e.size)).take (off % e.size) := by
                rw [List.take_take, Nat.min_eq_left (by omega)]
              have e2 : cs.take off = cs.take (off / e.size * e.size) ++ (cs.drop (off / e.size * e.size)).take (off % e.size) := by
                rw [← List.take_add, show off / e.size * e.size + off % e.size = off by omega]
              have e3 : cs.drop (off + y.sh.size) = ((cs.drop (off / e.size * e.size)).take e.size).drop (off % e.size + y.sh.size) ++ cs.drop (off / e.size * e.size + e.size) := by
                have : cs.drop (off + y.sh.size) = (cs.drop (off / e.size * e.size)).drop (off % e.size + y.sh.size) := by
                  rw [List.drop_drop, show off / e.size * e.size + (off % e.size + y.sh.size) = off + y.sh.size by omega]
                rw [this]
                rw [drop_mid (cs.drop (off / e.size * e.size)) (off % e.size + y.sh.size) e.size (by omega) (by rw [List.length_drop]; omega), List.drop_drop]
              rw [e1, e2, e3]
              simp [List.append_assoc]
            rw [this] at hs
            exact hs
          · cases h
        · cases h
      · cases h
  | unit =>
    intro x off y z cs cy h hr hy
    simp only [Ty.upd] at h
    split at h
    · rename_i c
      simp at c
      cases h
      obtain ⟨e1, e2, e3⟩ := c
      subst e1
      have hlen := RT.length _ _ _ hr
      refine ⟨?_, e3, by omega⟩
      rw [List.take_zero, List.nil_append, Nat.zero_add, List.drop_of_length_le (by omega), List.append_nil]
      exact hy
    · cases h
  | int k =>
    intro x off y z cs cy h hr hy
    simp only [Ty.upd] at h
    split at h
    · rename_i c
      simp at c
      cases h
      obtain ⟨e1, e2, e3⟩ := c
      subst e1
      have hlen := RT.length _ _ _ hr
      refine ⟨?_, e3, by omega⟩
      rw [List.take_zero, List.nil_append, Nat.zero_add, List.drop_of_length_le (by omega), List.append_nil]
      exact hy
    · cases h
  | bool =>
    intro x off y z cs cy h hr hy
    simp only [Ty.upd] at h
    split at h
    · rename_i c
      simp at c
      cases h
      obtain ⟨e1, e2, e3⟩ := c
      subst e1
      have hlen := RT.length _ _ _ hr
      refine ⟨?_, e3, by omega⟩
      rw [List.take_zero, List.nil_append, Nat.zero_add, List.drop_of_length_le (by omega), List.append_nil]
      exact hy
    · cases h
  | str =>
    intro x off y z cs cy h hr hy
    simp only [Ty.upd] at h
    split at h
    · rename_i c
      simp at c
      cases h
      obtain ⟨e1, e2, e3⟩ := c
      subst e1
      have hlen := RT.length _ _ _ hr
      refine ⟨?_, e3, by omega⟩
      rw [List.take_zero, List.nil_append, Nat.zero_add, List.drop_of_length_le (by omega), List.append_nil]
      exact hy
    · cases h
  | func =>
    intro x off y z cs cy h hr hy
    simp only [Ty.upd] at h
    split at h
    · rename_i c
      simp at c
      cases h
      obtain ⟨e1, e2, e3⟩ := c
      subst e1
      have hlen := RT.length _ _ _ hr
      refine ⟨?_, e3, by omega⟩
      rw [List.take_zero, List.nil_append, Nat.zero_add, List.drop_of_length_le (by omega), List.append_nil]
      exact hy
    · cases h
  | sl e _ =>
    intro x off y z cs cy h hr hy
    simp only [Ty.upd] at h
    split at h
    · rename_i c
      simp at c
      cases h
      obtain ⟨e1, e2, e3⟩ := c
      subst e1
      have hlen := RT.length _ _ _ hr
      refine ⟨?_, e3, by omega⟩
      rw [List.take_zero, List.nil_append, Nat.zero_add, List.drop_of_length_le (by omega), List.append_nil]
      exact hy
    · cases h

theorem Sh.upd_RS : ∀ (s : Sh) (x : s.den) (off : Nat) (y z : AV) (cs cy : List Value), Sh.upd s x off y = some z → RS w K s x cs → RS w K y.sh y.v cy →
    RS w K z.sh z.v (cs.take off ++ cy ++ cs.drop (off + y.sh.size)) ∧ z.sh.agg = s.agg ∧ off + y.sh.size ≤ s.size := by
  intro s
  induction s with
  | ty t => intro x off y z cs cy h hr hy; exact Ty.upd_RT t x off y z cs cy h hr hy
  | pair a b iha ihb =>
    intro x off y z cs cy h hr hy
    obtain ⟨c1, c2, e, h1, h2⟩ := hr
    have l1 := RS.length a _ _ h1
    have l2 := RS.length b _ _ h2
    have ly := RS.length _ _ _ hy
    subst e
    simp only [Sh.upd] at h
    split at h
    · rename_i e
      simp at e
      cases h
      obtain ⟨e1, e2, e3, _⟩ := e
      subst e1
      refine ⟨?_, e3, by simp [Sh.size, e2]⟩
      rw [List.take_zero, List.nil_append, Nat.zero_add, List.drop_of_length_le (by simp [l1, l2, e2]), List.append_nil]
      exact hy
    · split at h
      · rename_i e hlt
        split at h
        · rename_i z' hz
          cases h
          obtain ⟨i1, i2, i3⟩ := iha _ _ _ _ _ _ hz h1 hy
          refine ⟨?_, mkPair_agg _ _, by simp only [Sh.size]; omega⟩
          have := mkPair_RS (b := ⟨b, x.2⟩) i1 h2
          rw [List.take_append_of_le_length (by omega), List.drop_append_of_le_length (by omega), ← List.append_assoc]
          exact this
        · cases h
      · rename_i e hge
        split at h
        · rename_i z' hz
          cases h
          obtain ⟨i1, i2, i3⟩ := ihb _ _ _ _ _ _ hz h2 hy
          refine ⟨?_, mkPair_agg _ _, by simp only [Sh.size]; omega⟩
          have := mkPair_RS (a := ⟨a, x.1⟩) h1 i1
          rw [List.take_append, List.drop_append, List.take_of_length_le (by omega), l1, List.drop_of_length_le (show c1.length ≤ off + y.sh.size by omega), List.nil_append,
            show off + y.sh.size - a.size = off - a.size + y.sh.size by omega]
          simpa [List.append_assoc] using this
        · cases h
  | tup a _ =>
    intro x off y z cs cy h hr hy
    simp only [Sh.upd] at h
    cases h
  | top =>
    intro x off y z cs cy h hr hy
    simp only [Sh.upd] at h
    cases h
  | osl id e =>
    intro x off y z cs cy h hr hy
    simp only [Sh.upd] at h
    split at h
    · rename_i c
      simp at c
      cases h
      obtain ⟨e1, e2, e3⟩ := c
      subst e1
      have hlen := RS.length _ _ _ hr
      refine ⟨?_, e3, by omega⟩
      rw [List.take_zero, List.nil_append, Nat.zero_add, List.drop_of_length_le (by omega), List.append_nil]
      exact hy
    · cases h
  | box id o =>
    intro x off y z cs cy h hr hy
    simp only [Sh.upd] at h
    split at h
    · rename_i c
      simp at c
      cases h
      obtain ⟨e1, e2, e3⟩ := c
      subst e1
      have hlen := RS.length _ _ _ hr
      refine ⟨?_, e3, by omega⟩
      rw [List.take_zero, List.nil_append, Nat.zero_add, List.drop_of_length_le (by omega), List.append_nil]
      exact hy
    · cases h
  | boxi id o m e =>
    intro x off y z cs cy h hr hy
    simp only [Sh.upd] at h
    split at h
    · rename_i c
      simp at c
      cases h
      obtain ⟨e1, e2, e3⟩ := c
      subst e1
      have hlen := RS.length _ _ _ hr
      refine ⟨?_, e3, by omega⟩
      rw [List.take_zero, List.nil_append, Nat.zero_add, List.drop_of_length_le (by omega), List.append_nil]
      exact hy
    · cases h
  | ref t o =>
    intro x off y z cs cy h hr hy
    simp only [Sh.upd] at h
    split at h
    · rename_i c
      simp at c
      cases h
      obtain ⟨e1, e2, e3⟩ := c
      subst e1
      have hlen := RS.length _ _ _ hr
      refine ⟨?_, e3, by omega⟩
      rw [List.take_zero, List.nil_append, Nat.zero_add, List.drop_of_length_le (by omega), List.append_nil]
      exact hy
    · cases h
  | fn f c _ =>
    intro x off y z cs cy h hr hy
    simp only [Sh.upd] at h
    split at h
    · rename_i c
      simp at c
      cases h
      obtain ⟨e1, e2, e3⟩ := c
      subst e1
      have hlen := RS.length _ _ _ hr
      refine ⟨?_, e3, by omega⟩
      rw [List.take_zero, List.nil_append, Nat.zero_add, List.drop_of_length_le (by omega), List.append_nil]
      exact hy
    · cases h
  | lit v =>
    intro x off y z cs cy h hr hy
    simp only [Sh.upd] at h
    split at h
    · rename_i c
      simp at c
      cases h
      obtain ⟨e1, e2, e3⟩ := c
      subst e1
      have hlen := RS.length _ _ _ hr
      refine ⟨?_, e3, by omega⟩
      rw [List.take_zero, List.nil_append, Nat.zero_add, List.drop_of_length_le (by omega), List.append_nil]
      exact hy
    · cases h
end
end Go.Av
