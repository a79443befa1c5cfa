/- The bytes of an instruction, with whatever behind them, are decoded as it; for arguments of up to 1048576 parts. -/
import Derived.Test.YtbfhpnnnfjjjnaaRows
import Derived.Test.YtbfhpnnnfjjjnaaCLaw03b
namespace Go.Proofs.Ytbfhpnnnfjjjnaa.decodeBackUpto
open Go Go.Av Go.Proofs Go.RowKit Go.ChangeAt Go.ChangeShapes
theorem own : ownKnob Try.prog.godebug = none := by kernel_rfl
theorem kids : Kids Try.prog (· < Try.prog.types.size) := kids_rows (by kernel_rfl) (by kernel_rfl)
theorem full : ∀ t e, t < Try.prog.types.size → Try.prog.underlying t = some (.slice e) → 0 < Try.prog.cellsOf e := slices_full_of _ (by kernel_rfl)
theorem one_le {H : Type} (d : DataW H) : 1 ≤ Rows.uptoBulk d := by
  cases d with
  | lit l => cases l <;> simp [Rows.uptoBulk]
  | nil => simp [Rows.uptoBulk]
  | ptr d => simp [Rows.uptoBulk]
  | slice elems spare => simp [Rows.uptoBulk]
  | agg parts => simp [Rows.uptoBulk]
  | iface t d => simp [Rows.uptoBulk]
  | map entries => simp [Rows.uptoBulk]
  | held h => simp [Rows.uptoBulk]
theorem part_le {H : Type} {d : DataW H} {l : List (DataW H)} (h : d ∈ l) : Rows.uptoBulk d ≤ Rows.uptoBulkAll l := by
  induction l with
  | nil => cases h
  | cons x r ih =>
    simp only [Rows.uptoBulkAll]
    cases List.mem_cons.1 h with
    | inl e => subst e; omega
    | inr e => have := ih e; omega
theorem length_le {H : Type} (l : List (DataW H)) : l.length ≤ Rows.uptoBulkAll l := by
  induction l with
  | nil => simp [Rows.uptoBulkAll]
  | cons x r ih => have := one_le x; simp only [Rows.uptoBulkAll, List.length_cons]; omega
theorem small (H : Type) : Small (fun d : DataW H => Rows.uptoBulk d ≤ 1048576) 1048576 where
  str := fun b h _ => by
    simp only [Rows.uptoBulk] at h
    omega
  sl := fun e s h _ => by
    have := length_le e
    simp only [Rows.uptoBulk] at h
    omega
  el := fun e s h d hd => by
    have := part_le hd
    simp only [Rows.uptoBulk] at h
    omega
  agg := fun l h d hd => by
    have := part_le hd
    simp only [Rows.uptoBulk] at h
    omega
/-- The law's walk: what its text comes to, by the kernel's own reduction. -/
theorem walk (x : dens A_hauberklaw03_DecodeBack) : evF cLaw03b drawOk 8 2 9 (avs A_hauberklaw03_DecodeBack x) [] 64 fin = (T_hauberklaw03_DecodeBack x).run fun v => some (⟨.ty .bool, v⟩, [], 64) := by kernel_rfl
theorem calls (x : dens A_hauberklaw03_DecodeBack) (hx : fitsAll 1048576 A_hauberklaw03_DecodeBack x) {W : World} {vs : List Value} (hv : RVs W allOld (avs A_hauberklaw03_DecodeBack x) vs) : Calls Try.prog 9 vs.toArray W fun e W' => e = .returned (.bool true) ∧ Grown W W' :=
  law_mk cLaw03b_good 2 8 (by rw [walk, PO.run_val, law_hauberklaw03_DecodeBack x hx]; rfl) hv
set_option maxRecDepth 100000 in
theorem contract (H : Type) (enc : TypeId × Value → H) (W : World) (base : Nat) (args : Array Value) (ds gs : List (DataW H)) (before : List MemPlace)
    (hval : ∀ (j : Nat) t v, Try.f9.params[j]? = some t → args[j]? = some v → Value.okWide Try.prog W .any base t v)
    (hW : DataW.Whole enc Try.prog Try.f9.params.toList Rows.decodeBackSpec.vars false W args.toList ds gs before) (hm : ∀ d ∈ ds, (fun d => Rows.uptoBulk d ≤ 1048576) d) :
    Calls Try.prog 9 args W fun e W' => ∃ v, e = .returned v ∧ Rows.decodeBackSpec.post enc Try.prog Try.f9 false true false false W args v W' := by
  have hW' := hW
  obtain ⟨p, q, hA, hV, _, _, _⟩ := hW
  obtain ⟨rfl, rfl⟩ := trodVars_none (show DataW.TrodVars enc Try.prog W (fun _ => true) [] gs q from hV)
  obtain ⟨x, hx, hf⟩ := opened_all (M := (fun d => Rows.uptoBulk d ≤ 1048576)) kids (small H) Try.f9.params.toList A_hauberklaw03_DecodeBack args.toList ds p (by kernel_rfl) hA (fun j t v hj hv => hval j t v (by simpa using hj) (by simpa using hv)) hm
  have hl : ds.length = 2 := by
    have h1 := trodAll_len hA
    have h2 : Try.f9.params.toList.length = 2 := by kernel_rfl
    omega
  have hs : (Rows.decodeBackSpec.fn H (ds ++ [])).results = [.lit (.bool true)] ∧ (Rows.decodeBackSpec.fn H (ds ++ [])).args = ds ∧ (Rows.decodeBackSpec.fn H (ds ++ [])).vars = [] := by
    match ds, hl with
    | [d0, d1], _ => exact ⟨rfl, rfl, rfl⟩
  have := calls x hf hx
  rw [Array.toArray_toList] at this
  refine this.mono fun e W' ⟨he, hg⟩ => ⟨_, he, ?_⟩
  exact law_post kids full (t := 4) (by kernel_rfl) Try.underlying4 (allLt (by kernel_rfl)) rfl hW' hg hs.1 hs.2.1 hs.2.2
set_option maxRecDepth 100000 in
theorem lifted (os : Os) (started : os.Started) (H : Type) (enc : TypeId × Value → H) (F : Stop.Interp) :
    ReturnsInHanded {} Try.checked os 9 .any ((Rows.OpenSpec.upto Rows.decodeBackSpec).pre6 enc Try.prog Try.f9 Rows.decodeBackUptoRow.domain false) (((Rows.OpenSpec.upto Rows.decodeBackSpec).at F).post enc Try.prog Try.f9 false true false false) := by
  refine returnsInHanded_of_cond (C := Try.checked) (s := Rows.OpenSpec.upto Rows.decodeBackSpec) (k := Rows.uptoSmall) rfl own started (by kernel_rfl) Try.func9
    (OpenSpec.witness (enc := enc) (C := Try.checked) (s := Rows.OpenSpec.upto Rows.decodeBackSpec) (k := Rows.uptoSmall) rfl false ⟨#[], #[.agg #[.int .i64 0, .int .i64 0, .int .i64 0, .int .i64 0, .int .i64 0, .int .i64 0, .int .i64 0, .bool false], .string ⟨#[]⟩], []⟩ 8 (by kernel_rfl) (by kernel_rfl) (by kernel_rfl)
      (x := ([.agg [.lit (.int .i64 0), .lit (.int .i64 0), .lit (.int .i64 0), .lit (.int .i64 0), .lit (.int .i64 0), .lit (.int .i64 0), .lit (.int .i64 0), .lit (.bool false)], .lit (.string [])], [], [])) (by kernel_rfl) rfl (by kernel_rfl)) ?_
  intro W base args ds gs before hval hW _ hk _
  refine contract H enc W base args ds gs before hval hW (fun d hd => ?_)
  have h1 : Rows.uptoBulkAll (ds ++ gs) ≤ 1048576 := of_decide_eq_true hk
  have h2 := part_le (l := ds ++ gs) (List.mem_append_left _ hd)
  exact Nat.le_trans h2 h1
theorem over : Rows.decodeBackUptoRow.holds Try.pinned (Rows.OpenSpec.upto Rows.decodeBackSpec) :=
  OpenClaim.holds_of_cond 9 Try.f9 rfl rfl rfl rfl rfl rfl rfl ⟨rfl, rfl, rfl, rfl, rfl⟩ rfl rfl rfl rfl rfl (by kernel_rfl) Try.func9 (by kernel_rfl)
    (of_decide_eq_true (by kernel_rfl)) (by unfold Func.isWrapper; first | (rw [if_pos (by decide +kernel)]; kernel_rfl) | (rw [if_neg (by decide +kernel)]; exact ⟨rfl, rfl⟩))
    (fun os started H enc _ F => lifted os started H enc F)
/-- THE STATEMENT -/
theorem proved : Rows.DecodeBackUptoSaid := over
#print axioms proved
end Go.Proofs.Ytbfhpnnnfjjjnaa.decodeBackUpto
