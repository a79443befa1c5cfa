/- Outcome tells: what any result means, and whether it is wiped, is as the document says; for every result, with no condition. -/
import Derived.Test.YtfdnniopghcngaaRows
import Derived.Test.YtfdnniopghcngaaCOutcome
import Derived.Test.YtfdnniopghcngaaAvSized
namespace Go.Proofs.Ytfdnniopghcngaa.outcomeTells
open Go Go.Av Go.Proofs Go.RowKit Go.ChangeAt Go.ChangeShapes
theorem own : ownKnob Try.prog.godebug = none := by kernel_rfl
theorem kids : Kids Try.prog (· < Try.prog.types.size) := kids_rows (by kernel_rfl) (by kernel_rfl)
theorem full : ∀ t e, t < Try.prog.types.size → Try.prog.underlying t = some (.slice e) → 0 < Try.prog.cellsOf e := slices_full_of _ (by kernel_rfl)
/-- The law's walk: what its text comes to, by the kernel's own reduction. -/
theorem walk (x : dens A_hauberklaw10_OutcomeTells) : evF cOutcome drawOk 8 5 7 (avs A_hauberklaw10_OutcomeTells x) [] 64 fin = (T_hauberklaw10_OutcomeTells x).run fun v => some (⟨.ty .bool, v⟩, [], 64) := by kernel_rfl
theorem calls (x : dens A_hauberklaw10_OutcomeTells) (hx : fitsAll reachBytes A_hauberklaw10_OutcomeTells x) {W : World} {vs : List Value} (hv : RVs W allOld (avs A_hauberklaw10_OutcomeTells x) vs) : Calls Try.prog 7 vs.toArray W fun e W' => e = .returned (.bool true) ∧ Grown W W' :=
  law_mk cOutcome_good 5 8 (by rw [walk, PO.run_val, law_hauberklaw10_OutcomeTells x hx]; rfl) hv
set_option maxRecDepth 100000 in
theorem contract (H : Type) (enc : TypeId × Value → H) (W : World) (base : Nat) (args : Array Value) (ds gs : List (DataW H)) (before : List MemPlace)
    (hval : ∀ (j : Nat) t v, Try.f7.params[j]? = some t → args[j]? = some v → Value.okWide Try.prog W .any base t v)
    (hW : DataW.Whole enc Try.prog Try.f7.params.toList Rows.outcomeTellsSpec.vars false W args.toList ds gs before) (hm : (DataW.weightsEach Try.prog (Try.f7.params.toList ++ Rows.outcomeTellsSpec.plain.varTypes Try.prog) (ds ++ gs)).all (· ≤ reachBytes) = true) :
    Calls Try.prog 7 args W fun e W' => ∃ v, e = .returned v ∧ Rows.outcomeTellsSpec.post enc Try.prog Try.f7 false true false false W args v W' := by
  have hW' := hW
  obtain ⟨p, q, hA, hV, _, _, _⟩ := hW
  obtain ⟨rfl, rfl⟩ := trodVars_none (show DataW.TrodVars enc Try.prog W (fun _ => true) [] gs q from hV)
  obtain ⟨x, hx, hf⟩ := openedZ_all kids (by kernel_rfl : slBytes Try.prog = true) Try.f7.params.toList A_hauberklaw10_OutcomeTells args.toList ds p (by kernel_rfl) hA (fun j t v hj hv => hval j t v (by simpa using hj) (by simpa using hv)) (sized_all hm)
  have hl : ds.length = 1 := by
    have h1 := trodAll_len hA
    have h2 : Try.f7.params.toList.length = 1 := by kernel_rfl
    omega
  have hs : (Rows.outcomeTellsSpec.fn H (ds ++ [])).results = [.lit (.bool true)] ∧ (Rows.outcomeTellsSpec.fn H (ds ++ [])).args = ds ∧ (Rows.outcomeTellsSpec.fn H (ds ++ [])).vars = [] := by
    match ds, hl with
    | [d0], _ => exact ⟨rfl, rfl, rfl⟩
  have := calls x hf hx
  rw [Array.toArray_toList] at this
  refine this.mono fun e W' ⟨he, hg⟩ => ⟨_, he, ?_⟩
  exact law_post kids full (t := 4) (by kernel_rfl) Try.underlying4 (allLt (by kernel_rfl)) rfl hW' hg hs.1 hs.2.1 hs.2.2
set_option maxRecDepth 100000 in
theorem lifted (os : Os) (started : os.Started) (H : Type) (enc : TypeId × Value → H) :
    ReturnsInHanded {} Try.checked os 7 .any (Rows.outcomeTellsSpec.pre6 enc Try.prog Try.f7 Rows.outcomeTellsRow.domain false) (Rows.outcomeTellsSpec.post enc Try.prog Try.f7 false true false false) := by
  refine returnsInHanded_of_change_sized (C := Try.checked) own started (by kernel_rfl) Try.func7
    (ChangeSpec.witness6 (enc := enc) (C := Try.checked) false ⟨#[], #[.agg #[.bool false, .int .i64 0, .int .i64 0, .int .i64 0, .int .i64 0, .int .i64 0, .string ⟨#[]⟩, .string ⟨#[]⟩, .string ⟨#[]⟩]], []⟩ 8 (by kernel_rfl) (by kernel_rfl) (by kernel_rfl) (by kernel_rfl)) ?_
  intro W base args ds gs before hval hW _ hm _
  exact contract H enc W base args ds gs before hval hW hm
theorem over : Rows.outcomeTellsRow.holds Try.pinned (OpenSpec.ofChange Rows.outcomeTellsSpec) :=
  OpenClaim.holds_of_wide 7 Try.f7 rfl rfl rfl rfl rfl rfl rfl ⟨rfl, rfl, rfl, rfl, rfl⟩ rfl rfl rfl rfl rfl (by kernel_rfl) Try.func7 (by kernel_rfl)
    (of_decide_eq_true (by kernel_rfl)) (by unfold Func.isWrapper; first | (rw [if_pos (by decide +kernel)]; kernel_rfl) | (rw [if_neg (by decide +kernel)]; exact ⟨rfl, rfl⟩))
    (fun os started H enc _ => lifted os started H enc)
/-- THE STATEMENT -/
theorem proved : Rows.OutcomeTellsSaid := over
#print axioms proved
end Go.Proofs.Ytfdnniopghcngaa.outcomeTells
