/- The bytes of an instruction, with whatever behind them, are decoded as it; for all instructions and texts, with no condition. -/
import Derived.Test.YtbfhpnnnfjjjnaaRows
import Derived.Test.YtbfhpnnnfjjjnaaCLaw03b
import Derived.Test.YtbfhpnnnfjjjnaaAvSized
namespace Go.Proofs.Ytbfhpnnnfjjjnaa.decodeBack
open Go Go.Av Go.Proofs Go.RowKit Go.ChangeAt Go.ChangeShapes
theorem own : ownKnob Try.prog.godebug = none := by kernel_rfl
theorem kids : Kids Try.prog (· < Try.prog.types.size) := kids_rows (by kernel_rfl) (by kernel_rfl)
theorem full : ∀ t e, t < Try.prog.types.size → Try.prog.underlying t = some (.slice e) → 0 < Try.prog.cellsOf e := slices_full_of _ (by kernel_rfl)
/-- The law's walk: what its text comes to, by the kernel's own reduction. -/
theorem walk (x : dens A_hauberklaw03_DecodeBack) : evF cLaw03b drawOk 8 2 9 (avs A_hauberklaw03_DecodeBack x) [] 64 fin = (T_hauberklaw03_DecodeBack x).run fun v => some (⟨.ty .bool, v⟩, [], 64) := by kernel_rfl
theorem calls (x : dens A_hauberklaw03_DecodeBack) (hx : fitsAll reachBytes A_hauberklaw03_DecodeBack x) {W : World} {vs : List Value} (hv : RVs W allOld (avs A_hauberklaw03_DecodeBack x) vs) : Calls Try.prog 9 vs.toArray W fun e W' => e = .returned (.bool true) ∧ Grown W W' :=
  law_mk cLaw03b_good 2 8 (by rw [walk, PO.run_val, law_hauberklaw03_DecodeBack x hx]; rfl) hv
set_option maxRecDepth 100000 in
theorem contract (H : Type) (enc : TypeId × Value → H) (W : World) (base : Nat) (args : Array Value) (ds gs : List (DataW H)) (before : List MemPlace)
    (hval : ∀ (j : Nat) t v, Try.f9.params[j]? = some t → args[j]? = some v → Value.okWide Try.prog W .any base t v)
    (hW : DataW.Whole enc Try.prog Try.f9.params.toList Rows.decodeBackSpec.vars false W args.toList ds gs before) (hm : (DataW.weightsEach Try.prog (Try.f9.params.toList ++ Rows.decodeBackSpec.plain.varTypes Try.prog) (ds ++ gs)).all (· ≤ reachBytes) = true) :
    Calls Try.prog 9 args W fun e W' => ∃ v, e = .returned v ∧ Rows.decodeBackSpec.post enc Try.prog Try.f9 false true false false W args v W' := by
  have hW' := hW
  obtain ⟨p, q, hA, hV, _, _, _⟩ := hW
  obtain ⟨rfl, rfl⟩ := trodVars_none (show DataW.TrodVars enc Try.prog W (fun _ => true) [] gs q from hV)
  obtain ⟨x, hx, hf⟩ := openedZ_all kids (by kernel_rfl : slBytes Try.prog = true) Try.f9.params.toList A_hauberklaw03_DecodeBack args.toList ds p (by kernel_rfl) hA (fun j t v hj hv => hval j t v (by simpa using hj) (by simpa using hv)) (sized_all hm)
  have hl : ds.length = 2 := by
    have h1 := trodAll_len hA
    have h2 : Try.f9.params.toList.length = 2 := by kernel_rfl
    omega
  have hs : (Rows.decodeBackSpec.fn H (ds ++ [])).results = [.lit (.bool true)] ∧ (Rows.decodeBackSpec.fn H (ds ++ [])).args = ds ∧ (Rows.decodeBackSpec.fn H (ds ++ [])).vars = [] := by
    match ds, hl with
    | [d0, d1], _ => exact ⟨rfl, rfl, rfl⟩
  have := calls x hf hx
  rw [Array.toArray_toList] at this
  refine this.mono fun e W' ⟨he, hg⟩ => ⟨_, he, ?_⟩
  exact law_post kids full (t := 4) (by kernel_rfl) Try.underlying4 (allLt (by kernel_rfl)) rfl hW' hg hs.1 hs.2.1 hs.2.2
set_option maxRecDepth 100000 in
theorem lifted (os : Os) (started : os.Started) (H : Type) (enc : TypeId × Value → H) :
    ReturnsInHanded {} Try.checked os 9 .any (Rows.decodeBackSpec.pre6 enc Try.prog Try.f9 Rows.decodeBackRow.domain false) (Rows.decodeBackSpec.post enc Try.prog Try.f9 false true false false) := by
  refine returnsInHanded_of_change_sized (C := Try.checked) own started (by kernel_rfl) Try.func9
    (ChangeSpec.witness6 (enc := enc) (C := Try.checked) false ⟨#[], #[.agg #[.int .i64 0, .int .i64 0, .int .i64 0, .int .i64 0, .int .i64 0, .int .i64 0, .int .i64 0, .bool false], .string ⟨#[]⟩], []⟩ 8 (by kernel_rfl) (by kernel_rfl) (by kernel_rfl) (by kernel_rfl)) ?_
  intro W base args ds gs before hval hW _ hm _
  exact contract H enc W base args ds gs before hval hW hm
theorem over : Rows.decodeBackRow.holds Try.pinned (OpenSpec.ofChange Rows.decodeBackSpec) :=
  OpenClaim.holds_of_wide 9 Try.f9 rfl rfl rfl rfl rfl rfl rfl ⟨rfl, rfl, rfl, rfl, rfl⟩ rfl rfl rfl rfl rfl (by kernel_rfl) Try.func9 (by kernel_rfl)
    (of_decide_eq_true (by kernel_rfl)) (by unfold Func.isWrapper; first | (rw [if_pos (by decide +kernel)]; kernel_rfl) | (rw [if_neg (by decide +kernel)]; exact ⟨rfl, rfl⟩))
    (fun os started H enc _ => lifted os started H enc)
/-- THE STATEMENT -/
theorem proved : Rows.DecodeBackSaid := over
#print axioms proved
end Go.Proofs.Ytbfhpnnnfjjjnaa.decodeBack
