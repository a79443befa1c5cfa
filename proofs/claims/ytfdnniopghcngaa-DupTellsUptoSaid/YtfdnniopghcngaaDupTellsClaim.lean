/- Dup tells: any items, done twice, are as the document says; for every list of items, where what is read is of bulk at most 1048576. -/
import Derived.Test.YtfdnniopghcngaaRows
import Derived.Test.YtfdnniopghcngaaCDup
namespace Go.Proofs.Ytfdnniopghcngaa.dupTellsUpto
open Go Go.Av Go.Proofs Go.RowKit Go.ChangeAt Go.ChangeShapes
theorem own : ownKnob Try.prog.godebug = none := by kernel_rfl
theorem kids : Kids Try.prog (· < Try.prog.types.size) := kids_rows (by kernel_rfl) (by kernel_rfl)
theorem full : ∀ t e, t < Try.prog.types.size → Try.prog.underlying t = some (.slice e) → 0 < Try.prog.cellsOf e := slices_full_of _ (by kernel_rfl)
theorem one_le {H : Type} (d : DataW H) : 1 ≤ Rows.uptoBulk d := by
  cases d with
  | lit l => cases l <;> simp [Rows.uptoBulk]
  | nil => simp [Rows.uptoBulk]
  | ptr d => simp [Rows.uptoBulk]
  | slice elems spare => simp [Rows.uptoBulk]
  | agg parts => simp [Rows.uptoBulk]
  | iface t d => simp [Rows.uptoBulk]
  | map entries => simp [Rows.uptoBulk]
  | held h => simp [Rows.uptoBulk]
theorem part_le {H : Type} {d : DataW H} {l : List (DataW H)} (h : d ∈ l) : Rows.uptoBulk d ≤ Rows.uptoBulkAll l := by
  induction l with
  | nil => cases h
  | cons x r ih =>
    simp only [Rows.uptoBulkAll]
    cases List.mem_cons.1 h with
    | inl e => subst e; omega
    | inr e => have := ih e; omega
theorem length_le {H : Type} (l : List (DataW H)) : l.length ≤ Rows.uptoBulkAll l := by
  induction l with
  | nil => simp [Rows.uptoBulkAll]
  | cons x r ih => have := one_le x; simp only [Rows.uptoBulkAll, List.length_cons]; omega
theorem small (H : Type) : Small (fun d : DataW H => Rows.uptoBulk d ≤ 1048576) 1048576 where
  str := fun b h _ => by
    simp only [Rows.uptoBulk] at h
    omega
  sl := fun e s h _ => by
    have := length_le e
    simp only [Rows.uptoBulk] at h
    omega
  el := fun e s h d hd => by
    have := part_le hd
    simp only [Rows.uptoBulk] at h
    omega
  agg := fun l h d hd => by
    have := part_le hd
    simp only [Rows.uptoBulk] at h
    omega
/-- The law's walk: what its text comes to, by the kernel's own reduction. -/
theorem walk (x : dens A_hauberklaw28_DupTells) : evF cDup drawOk 8 3 14 (avs A_hauberklaw28_DupTells x) [] 64 fin = (T_hauberklaw28_DupTells x).run fun v => some (⟨.ty .bool, v⟩, [], 64) := by kernel_rfl
theorem calls (x : dens A_hauberklaw28_DupTells) (hx : fitsAll 1048576 A_hauberklaw28_DupTells x) {W : World} {vs : List Value} (hv : RVs W allOld (avs A_hauberklaw28_DupTells x) vs) : Calls Try.prog 14 vs.toArray W fun e W' => e = .returned (.bool true) ∧ Grown W W' :=
  law_mk cDup_good 3 8 (by rw [walk, PO.run_val, law_hauberklaw28_DupTells x hx]; rfl) hv
set_option maxRecDepth 100000 in
theorem contract (H : Type) (enc : TypeId × Value → H) (W : World) (base : Nat) (args : Array Value) (ds gs : List (DataW H)) (before : List MemPlace)
    (hval : ∀ (j : Nat) t v, Try.f14.params[j]? = some t → args[j]? = some v → Value.okWide Try.prog W .any base t v)
    (hW : DataW.Whole enc Try.prog Try.f14.params.toList Rows.dupTellsSpec.vars false W args.toList ds gs before) (hm : ∀ d ∈ ds, (fun d => Rows.uptoBulk d ≤ 1048576) d) :
    Calls Try.prog 14 args W fun e W' => ∃ v, e = .returned v ∧ Rows.dupTellsSpec.post enc Try.prog Try.f14 false true false false W args v W' := by
  have hW' := hW
  obtain ⟨p, q, hA, hV, _, _, _⟩ := hW
  obtain ⟨rfl, rfl⟩ := trodVars_none (show DataW.TrodVars enc Try.prog W (fun _ => true) [] gs q from hV)
  obtain ⟨x, hx, hf⟩ := opened_all (M := (fun d => Rows.uptoBulk d ≤ 1048576)) kids (small H) Try.f14.params.toList A_hauberklaw28_DupTells args.toList ds p (by kernel_rfl) hA (fun j t v hj hv => hval j t v (by simpa using hj) (by simpa using hv)) hm
  have hl : ds.length = 1 := by
    have h1 := trodAll_len hA
    have h2 : Try.f14.params.toList.length = 1 := by kernel_rfl
    omega
  have hs : (Rows.dupTellsSpec.fn H (ds ++ [])).results = [.lit (.bool true)] ∧ (Rows.dupTellsSpec.fn H (ds ++ [])).args = ds ∧ (Rows.dupTellsSpec.fn H (ds ++ [])).vars = [] := by
    match ds, hl with
    | [d0], _ => exact ⟨rfl, rfl, rfl⟩
  have := calls x hf hx
  rw [Array.toArray_toList] at this
  refine this.mono fun e W' ⟨he, hg⟩ => ⟨_, he, ?_⟩
  exact law_post kids full (t := 4) (by kernel_rfl) Try.underlying4 (allLt (by kernel_rfl)) rfl hW' hg hs.1 hs.2.1 hs.2.2
set_option maxRecDepth 100000 in
theorem lifted (os : Os) (started : os.Started) (H : Type) (enc : TypeId × Value → H) (F : Stop.Interp) :
    ReturnsInHanded {} Try.checked os 14 .any ((Rows.OpenSpec.upto Rows.dupTellsSpec).pre6 enc Try.prog Try.f14 Rows.dupTellsUptoRow.domain false) (((Rows.OpenSpec.upto Rows.dupTellsSpec).at F).post enc Try.prog Try.f14 false true false false) := by
  refine returnsInHanded_of_cond (C := Try.checked) (s := Rows.OpenSpec.upto Rows.dupTellsSpec) (k := Rows.uptoSmall) rfl own started (by kernel_rfl) Try.func14
    (OpenSpec.witness (enc := enc) (C := Try.checked) (s := Rows.OpenSpec.upto Rows.dupTellsSpec) (k := Rows.uptoSmall) rfl false ⟨#[], #[.slice none 0 0], []⟩ 8 (by kernel_rfl) (by kernel_rfl) (by kernel_rfl)
      (x := ([.nil], [], [])) (by kernel_rfl) rfl (by kernel_rfl)) ?_
  intro W base args ds gs before hval hW _ hk _
  refine contract H enc W base args ds gs before hval hW (fun d hd => ?_)
  have h1 : Rows.uptoBulkAll (ds ++ gs) ≤ 1048576 := of_decide_eq_true hk
  have h2 := part_le (l := ds ++ gs) (List.mem_append_left _ hd)
  exact Nat.le_trans h2 h1
theorem over : Rows.dupTellsUptoRow.holds Try.pinned (Rows.OpenSpec.upto Rows.dupTellsSpec) :=
  OpenClaim.holds_of_cond 14 Try.f14 rfl rfl rfl rfl rfl rfl rfl ⟨rfl, rfl, rfl, rfl, rfl⟩ rfl rfl rfl rfl rfl (by kernel_rfl) Try.func14 (by kernel_rfl)
    (of_decide_eq_true (by kernel_rfl)) (by unfold Func.isWrapper; first | (rw [if_pos (by decide +kernel)]; kernel_rfl) | (rw [if_neg (by decide +kernel)]; exact ⟨rfl, rfl⟩))
    (fun os started H enc _ F => lifted os started H enc F)
/-- THE STATEMENT -/
theorem proved : Rows.DupTellsUptoSaid := over
#print axioms proved
end Go.Proofs.Ytfdnniopghcngaa.dupTellsUpto
