/- Arguments to abstract values, with the sizes that the form itself allows: each string and each slice takes at most 2^47 - 4096 bytes. -/
import Derived.Test.YtbfhpnnnfjjjnaaAvClaim
import Derived.SizedLaws
namespace Go.Av
open Go Go.RowKit Go.ChangeShapes Go.WideShapes Go.ChangeAt

/-- What is read takes no more than the form's reach, each part by itself. -/
def Sz {H : Type} (P : Program) (t : TypeId) (d : DataW H) : Prop := ∀ n ∈ d.weights P t, n ≤ reachBytes

/-- Each slice's elements take a byte at least. -/
def slBytes (P : Program) : Bool := (List.range P.types.size).all fun t => match P.underlying t with
  | some (.slice e) => decide (0 < P.bytesOf e)
  | _ => true

section
variable {H : Type} {P : Program}

theorem slBytes_at (h : slBytes P = true) {t e : TypeId} (ht : t < P.types.size) (hu : P.underlying t = some (.slice e)) : 0 < P.bytesOf e := by
  have := List.all_eq_true.1 h t (List.mem_range.2 ht)
  rw [hu] at this
  exact of_decide_eq_true this

theorem mem_weightsAll {e : TypeId} {d : DataW H} {n : Nat} : ∀ {l : List (DataW H)}, d ∈ l → n ∈ d.weights P e → n ∈ DataW.weightsAll P e l
  | x :: l, hd, hn => by
    simp only [DataW.weightsAll, List.mem_append]
    rcases List.mem_cons.1 hd with rfl | hd
    · exact Or.inl hn
    · exact Or.inr (mem_weightsAll hd hn)

theorem sz_str {t : TypeId} {b : List UInt8} (h : Sz (H := H) P t (.lit (.string b))) : b.length ≤ reachBytes := h _ (by simp [DataW.weights])

theorem sz_len {t e : TypeId} {els sp : List (DataW H)} (hu : P.underlying t = some (.slice e)) (hb : 0 < P.bytesOf e) (h : Sz P t (.slice els sp)) : els.length ≤ reachBytes :=
  Nat.le_trans (Nat.le_trans (Nat.le_add_right _ _) (Nat.le_mul_of_pos_right _ hb)) (h ((els.length + sp.length) * P.bytesOf e) (by simp [DataW.weights, hu]))

theorem sz_el {t e : TypeId} {els sp : List (DataW H)} (hu : P.underlying t = some (.slice e)) (h : Sz P t (.slice els sp)) (d : DataW H) (hd : d ∈ els) : Sz P e d := fun n hn => h n (by
  simp only [DataW.weights, hu, List.mem_cons, List.mem_append]
  exact Or.inr (Or.inl (mem_weightsAll hd hn)))

theorem sz_arr {t e : TypeId} {m : Nat} {l : List (DataW H)} (hu : P.underlying t = some (.array m e)) (h : Sz P t (.agg l)) (d : DataW H) (hd : d ∈ l) : Sz P e d := fun n hn => h n (by
  simp only [DataW.weights, hu]
  exact mem_weightsAll hd hn)

theorem sz_struct {t : TypeId} {fs : Array Field} {l : List (DataW H)} (hu : P.underlying t = some (.struct fs)) (h : Sz P t (.agg l)) {j : Nat} {f : Field} {d : DataW H} (hf : fs[j]? = some f) (hd : l[j]? = some d) : Sz P f.type d := fun n hn => h n (by
  simp only [DataW.weights, hu]
  exact DataW.weights_mem_each (j := j) (by simp [hf]) hd n hn)
end

section
variable {H : Type} {enc : TypeId × Value → H} {P : Program} {w : World} {base : Nat} {sp : Nat → Bool} {held : Bool}

/-- What is read is plain data. -/
theorem openedZ (K : Kids P (· < P.types.size)) (S : slBytes P = true) : ∀ (dp : Nat) (t : TypeId) (τ : Ty), tyOf P dp t = some τ → τ.data = true → t < P.types.size → ∀ (fuel : Nat) (cs : List Value) (x : DataW H × List MemPlace),
    DataW.trod enc P w base sp held fuel t cs = some x → Sz P t x.1 → ∃ y : τ.den, RT w allOld τ y cs ∧ τ.fits reachBytes y := by
  intro dp
  induction dp with
  | zero => intro t τ h; cases h
  | succ dp ih =>
    intro t τ h hda ht fuel cs x hx hm
    simp only [tyOf] at h
    split at h
    · rename_i k hu
      cases h
      obtain ⟨n, rfl, rfl, hw⟩ := DataW.trod_int hu hx
      exact ⟨n, rfl, hw⟩
    · rename_i hu
      cases h
      obtain ⟨b, rfl, rfl⟩ := DataW.trod_bool hu hx
      exact ⟨b, rfl, trivial⟩
    · rename_i hu
      cases h
      obtain ⟨s, rfl, rfl, hs⟩ := DataW.trod_string hu hx
      exact ⟨s.data.toList, rfl, sz_str hm⟩
    · cases h; cases hda
    · rename_i e hu
      obtain ⟨τe, he, rfl⟩ := Option.map_eq_some_iff.1 h
      have hel := K.slice ht hu
      rcases DataW.trod_slice hu hx with ⟨rfl, rfl⟩ | ⟨a, len, cap, elems, rest, n, rfl, rfl, rfl, _, hlc, hcm, hel', hget, _, _⟩
      · exact ⟨[], ⟨none, 0, 0, rfl, rfl, Nat.le_refl _, fun _ => rfl, fun a ha => by cases ha⟩, by simp [Ty.fits]⟩
      · have key : ∀ k, k ≤ len → ∃ (ys : List τe.den) (cc : List Value), ys.length = k ∧ RL (RT w allOld τe) ys cc ∧ cc.length = k * P.cellsOf e ∧ (∀ y ∈ ys, τe.fits reachBytes y) ∧ (0 < cc.length → a.spot = none) ∧ ∀ j v, cc[j]? = some v → w.cell? ⟨a.block, a.off + j, none⟩ = some v := by
          intro k
          induction k with
          | zero => intro _; exact ⟨[], [], rfl, rfl, by simp, (fun y hy => by cases hy), (fun h => by simp at h), fun j v hj => by simp at hj⟩
          | succ k ihk =>
            intro hk
            obtain ⟨ys, cc, h1, h2, h3, h4, h6, h5⟩ := ihk (by omega)
            have hg := hget k (by omega)
            rw [List.getElem?_eq_getElem (by omega)] at hg
            obtain ⟨cs', hc, hy⟩ := Option.bind_eq_some_iff.1 hg
            obtain ⟨hl, hspot, hcell⟩ := cells_get hc
            obtain ⟨y, hr, hf⟩ := ih e τe he hda hel n cs' _ hy (sz_el hu hm _ (List.mem_map_of_mem (List.getElem_mem _)))
            refine ⟨ys ++ [y], cc ++ cs', by simp [h1], RL.append h2 ⟨cs', [], by simp, hr, rfl⟩, by simp [h3, hl, Nat.succ_mul], fun z hz => ?_, fun hpos => ?_, fun j v hj => ?_⟩
            · rcases List.mem_append.1 hz with hz | hz
              · exact h4 z hz
              · simp at hz; subst hz; exact hf
            · rcases Nat.eq_zero_or_pos k with rfl | hk0
              · rw [Nat.zero_mul] at hspot
                have : (a.add 0) = a := by simp [Addr.add]
                rw [this] at hspot
                refine hspot ?_
                simp only [List.length_append, hl, h3, Nat.zero_mul] at hpos
                omega
              · refine h6 ?_
                rw [h3]
                simp only [List.length_append, hl, h3] at hpos
                rcases Nat.eq_zero_or_pos (P.cellsOf e) with hz | hz
                · rw [hz] at hpos; simp at hpos
                · exact Nat.mul_pos hk0 hz
            · rcases Nat.lt_or_ge j cc.length with hjl | hjl
              · rw [List.getElem?_append_left hjl] at hj
                exact h5 j v hj
              · rw [List.getElem?_append_right hjl] at hj
                have g2 := hcell _ _ hj
                rw [(add_block _ _).1, (add_block _ _).2, show a.off + k * P.cellsOf e + (j - cc.length) = a.off + j by rw [h3] at hjl ⊢; omega] at g2
                exact g2
        obtain ⟨ys, cc, h1, h2, _, h4, h6, h5⟩ := key len (Nat.le_refl _)
        refine ⟨ys, ⟨some a, len, cap, rfl, h1.symm, hlc, (fun e => by cases e), fun a' ha => ?_⟩, ?_, h4⟩
        · cases ha
          exact ⟨cc, h2, fun j v hj => ⟨h6 (Nat.lt_of_le_of_lt (Nat.zero_le _) (List.getElem?_eq_some_iff.1 hj).1), h5 j v hj, trivial⟩⟩
        · rw [h1]
          have := sz_len hu (slBytes_at S ht hu) hm
          simpa [hel'] using this
    · rename_i n e hu
      obtain ⟨τe, he, rfl⟩ := Option.map_eq_some_iff.1 h
      obtain ⟨hel, hsz⟩ := K.array ht hu
      obtain ⟨xs, m, rfl, rfl, hl, hxl, hget⟩ := DataW.trod_array hu hx
      have key : ∀ k, k ≤ n → ∃ (ys : List τe.den), ys.length = k ∧ RL (RT w allOld τe) ys (cs.take (k * P.cellsOf e)) ∧ (∀ y ∈ ys, τe.fits reachBytes y) := by
        intro k
        induction k with
        | zero => intro _; exact ⟨[], rfl, by simp [RL], (fun y hy => by cases hy)⟩
        | succ k ihk =>
          intro hk
          obtain ⟨ys, h1, h2, h4⟩ := ihk (by omega)
          have hg := hget k (by omega)
          rw [List.getElem?_eq_getElem (by omega)] at hg
          obtain ⟨y, hr, hf⟩ := ih e τe he hda hel m _ _ hg (sz_arr hu hm _ (List.mem_map_of_mem (List.getElem_mem _)))
          refine ⟨ys ++ [y], by simp [h1], ?_, fun z hz => ?_⟩
          · rw [Nat.succ_mul, List.take_add]
            exact RL.append h2 ⟨_, [], by simp, hr, rfl⟩
          · rcases List.mem_append.1 hz with hz | hz
            · exact h4 z hz
            · simp at hz; subst hz; exact hf
      obtain ⟨ys, h1, h2, h4⟩ := key n (Nat.le_refl _)
      rw [List.take_of_length_le (by rw [hl, hsz]; exact Nat.le_refl _)] at h2
      exact ⟨ys, ⟨h1, h2⟩, h1, h4⟩
    · rename_i fs hu
      obtain ⟨hty, hsz, hoff⟩ := K.struct ht hu
      obtain ⟨xs, n, rfl, rfl, hl, hxl, hget⟩ := DataW.trod_struct hu hx
      have key : ∀ (l : List Field) (off : Nat) (τ : Ty), tyOf.fields (tyOf P dp) l = some τ → τ.data = true → (∀ (j : Nat) f, l[j]? = some f → f.offset = off + ((l.take j).map fun f => P.cellsOf f.type).sum ∧ f.type < P.types.size ∧ ∃ y, DataW.trod enc P w base sp held n f.type ((cs.drop f.offset).take (P.cellsOf f.type)) = some y ∧ Sz P f.type y.1) →
          ∃ y : τ.den, RT w allOld τ y ((cs.drop off).take ((l.map fun f => P.cellsOf f.type).sum)) ∧ τ.fits reachBytes y := by
        intro l
        induction l with
        | nil => intro off τ h _ _; cases h; exact ⟨(), by simp [RT], trivial⟩
        | cons f l ihl =>
          intro off τ h hda hf
          simp only [tyOf.fields] at h
          split at h
          · rename_i a b ha hb
            cases h
            simp only [Ty.data, Bool.and_eq_true] at hda
            obtain ⟨h0, hlt, y0, hy0, hm0⟩ := hf 0 f rfl
            simp at h0
            obtain ⟨y, hr, hfit⟩ := ih f.type a ha hda.1 hlt n _ _ hy0 hm0
            obtain ⟨z, hz, hzf⟩ := ihl (off + P.cellsOf f.type) b hb hda.2 (fun j g hg => by
              obtain ⟨q1, q2, q3⟩ := hf (j + 1) g (by simpa using hg)
              refine ⟨?_, q2, q3⟩
              rw [q1]
              simp only [List.take_succ_cons, List.map_cons, List.sum_cons]
              omega)
            refine ⟨(y, z), ⟨_, _, ?_, hr, hz⟩, hfit, hzf⟩
            rw [h0, List.map_cons, List.sum_cons, List.take_add, List.drop_drop]
          · cases h
      obtain ⟨y, hr, hf⟩ := key fs.toList 0 τ h hda (fun j f hj => by
        refine ⟨by simpa using hoff j f hj, hty f (List.mem_of_getElem? hj), ?_⟩
        have hj' : fs[j]? = some f := by rw [← hj]; simp
        have hlt : j < xs.length := by rw [hxl]; exact (Array.getElem?_eq_some_iff.1 hj').1
        have := hget j f hj'
        rw [List.getElem?_eq_getElem hlt] at this
        exact ⟨_, this, sz_struct hu hm (j := j) hj' (by simp [List.getElem?_eq_getElem hlt])⟩)
      refine ⟨y, ?_, hf⟩
      rw [List.drop_zero, ← hsz, ← hl, List.take_length] at hr
      exact hr
    · cases h

theorem openedZ_RV (K : Kids P (· < P.types.size)) (S : slBytes P = true) {t : TypeId} {τ : Ty} (h : tyOf P tyDepth t = some τ) (hda : τ.data = true) (ht : t < P.types.size) {r : Reach} {b : Nat} {v : Value} (hval : Value.okWide P w r b t v) {d : DataW H} {ps : List MemPlace} (hd : DataW.Trod enc P w base sp held t v d ps) (hm : Sz P t d)
    (harr : ∀ n e, P.underlying t ≠ some (.array n e)) : ∃ y : τ.den, RV w allOld ⟨.ty τ, y⟩ v ∧ τ.fits reachBytes y := by
  obtain ⟨fuel, hx⟩ := hd
  obtain ⟨y, hr, hf⟩ := openedZ K S tyDepth t τ h hda ht fuel _ _ hx hm
  refine ⟨y, ⟨hr, ?_⟩, hf⟩
  have h' := h
  simp only [tyDepth, tyOf] at h'
  split at h'
  · rename_i k hu
    cases h'
    obtain ⟨n, rfl⟩ := okWide_int hu hval
    exact ⟨(fun e => (by cases e)), (fun _ c e => (by cases e))⟩
  · rename_i hu
    cases h'
    obtain ⟨n, rfl⟩ := okWide_bool hu hval
    exact ⟨(fun e => (by cases e)), (fun _ c e => (by cases e))⟩
  · rename_i hu
    cases h'
    obtain ⟨n, rfl⟩ := okWide_string hu hval
    exact ⟨(fun e => (by cases e)), (fun _ c e => (by cases e))⟩
  · cases h'; cases hda
  · rename_i e hu
    obtain ⟨τe, _, rfl⟩ := Option.map_eq_some_iff.1 h'
    obtain ⟨a, l, c, rfl⟩ := okWide_slice hu hval
    exact ⟨(fun e => (by cases e)), (fun _ c e => (by cases e))⟩
  · rename_i n e hu
    exact (harr n e hu).elim
  · rename_i fs hu
    obtain ⟨cs, rfl, _⟩ := okWide_struct hu hval
    refine ⟨fun _ => ⟨cs, rfl⟩, fun e => ?_⟩
    have : ∀ (l : List Field) (f : TypeId → Option Ty) (τ : Ty), tyOf.fields f l = some τ → τ.agg = true := by
      intro l f τ h
      cases l with
      | nil => cases h; rfl
      | cons x l =>
        simp only [tyOf.fields] at h
        split at h
        · cases h; rfl
        · cases h
    rw [show Sh.agg (.ty τ) = true from this _ _ _ h'] at e
    cases e
  · cases h'

theorem openedZ_all (K : Kids P (· < P.types.size)) (S : slBytes P = true) {r : Reach} {b : Nat} : ∀ (ts : List TypeId) (τs : List Ty) (vs : List Value) (ds : List (DataW H)) (ps : List MemPlace), argsOk P ts τs = true →
    DataW.TrodAll enc P w base sp held ts vs ds ps → (∀ (j : Nat) t v, ts[j]? = some t → vs[j]? = some v → Value.okWide P w r b t v) → (∀ (j : Nat) t d, ts[j]? = some t → ds[j]? = some d → Sz P t d) →
    ∃ x : dens τs, RVs w allOld (avs τs x) vs ∧ fitsAll reachBytes τs x
  | [], [], [], [], _, _, _, _, _ => ⟨(), trivial, trivial⟩
  | t :: ts, τ :: τs, v :: vs, d :: ds, ps, ha, ⟨p, q, h1, h2, _⟩, hval, hm => by
    simp only [argsOk, Bool.and_eq_true] at ha
    obtain ⟨a1, a2, a3, a4⟩ := ha
    have hτ : tyOf P tyDepth t = some τ ∧ τ.data = true := by
      split at a1
      · rename_i τ' e
        simp only [Bool.and_eq_true] at a1
        exact ⟨by rw [e, of_decide_eq_true a1.1], a1.2⟩
      · cases a1
    obtain ⟨y, hr, hf⟩ := openedZ_RV K S hτ.1 hτ.2 (of_decide_eq_true a2) (hval 0 t v rfl rfl) h1 (hm 0 t d rfl rfl) (fun n e he => by rw [he] at a3; cases a3)
    obtain ⟨x, hx, hxf⟩ := openedZ_all K S ts τs vs ds q a4 h2 (fun j t v hj hv => hval (j + 1) t v (by simpa using hj) (by simpa using hv)) (fun j t d ht hd => hm (j + 1) t d (by simpa using ht) (by simpa using hd))
    cases τs with
    | nil =>
      cases vs with
      | nil => exact ⟨y, ⟨hr, trivial⟩, hf⟩
      | cons v' vs' => exact hx.elim
    | cons τ' τs' => exact ⟨(y, x), ⟨hr, hx⟩, hf, hxf⟩
  | [], _ :: _, _, _, _, h, _, _, _ => by cases h
  | _ :: _, [], _, _, _, h, _, _, _ => by cases h
  | _ :: _, _ :: _, [], _, _, _, h, _, _ => h.elim
  | _ :: _, _ :: _, _ :: _, [], _, _, h, _, _ => h.elim
  | [], [], _ :: _, _, _, _, h, _, _ => h.elim
  | [], [], [], _ :: _, _, _, h, _, _ => h.elim

theorem sized_all {ts us : List TypeId} {ds gs : List (DataW H)} (h : (DataW.weightsEach P (ts ++ us) (ds ++ gs)).all (· ≤ reachBytes) = true) (j : Nat) (t : TypeId) (d : DataW H) (ht : ts[j]? = some t) (hd : ds[j]? = some d) : Sz P t d := fun n hn => by
  have h1 : (ts ++ us)[j]? = some t := by rw [List.getElem?_append_left (List.getElem?_eq_some_iff.1 ht).1]; exact ht
  have h2 : (ds ++ gs)[j]? = some d := by rw [List.getElem?_append_left (List.getElem?_eq_some_iff.1 hd).1]; exact hd
  have := List.all_eq_true.1 h n (DataW.weights_mem_each h1 h2 n hn)
  simpa using this
end
end Go.Av
