/- Without a fault a run is Right, or counted as what it is; and a fault behind the last step is none: for every image, input, fault and budget (budget 0 to 300, images of at most 5000 bytes, a fault that may be; else the example is told). -/
import Derived.Test.YtamnhodjidmlcaaRows
import Derived.Test.YtamnhodjidmlcaaCampaignNoneK6
namespace Go.Proofs.Ytamnhodjidmlcaa.campaignNone
open Go Go.Av Go.Proofs Go.RowKit Go.ChangeAt Go.ChangeShapes
theorem own : ownKnob Try.prog.godebug = none := by kernel_rfl
theorem kids : Kids Try.prog (· < Try.prog.types.size) := kids_rows (by kernel_rfl) (by kernel_rfl)
theorem full : ∀ t e, t < Try.prog.types.size → Try.prog.underlying t = some (.slice e) → 0 < Try.prog.cellsOf e := slices_full_of _ (by kernel_rfl)
/-- The law's walk: what its text comes to, by the kernel's own reduction. -/
theorem walk (x : dens A_hauberklaw34_CampaignNone) : evF cLaw34 drawOk 12 4 7 (avs A_hauberklaw34_CampaignNone x) [] 64 fin = (T_hauberklaw34_CampaignNone x).run fun v => some (⟨.ty .bool, v⟩, [], 64) := by kernel_rfl
theorem calls (x : dens A_hauberklaw34_CampaignNone) (hx : fitsAll maxLen A_hauberklaw34_CampaignNone x) {W : World} {vs : List Value} (hv : RVs W allOld (avs A_hauberklaw34_CampaignNone x) vs) : Calls Try.prog 7 vs.toArray W fun e W' => e = .returned (.bool true) ∧ Grew W W' :=
  law_mk cLaw34_good 4 12 (by rw [walk, PO.run_val, law_hauberklaw34_CampaignNone x hx]; rfl) hv
set_option maxRecDepth 100000 in
theorem contract (H : Type) (enc : TypeId × Value → H) (W : World) (base : Nat) (args : Array Value) (ds gs : List (DataW H)) (before : List MemPlace)
    (hval : ∀ (j : Nat) t v, Try.f7.params[j]? = some t → args[j]? = some v → Value.okWide Try.prog W .any base t v)
    (hW : DataW.Whole enc Try.prog Try.f7.params.toList Rows.campaignNoneSpec.vars false W args.toList ds gs before) (hm : ∀ d ∈ ds, (fun _ => True) d) :
    Calls Try.prog 7 args W fun e W' => ∃ v, e = .returned v ∧ Rows.campaignNoneSpec.post enc Try.prog Try.f7 false true false false W args v W' := by
  have hW' := hW
  obtain ⟨p, q, hA, hV, _, _, _⟩ := hW
  obtain ⟨rfl, rfl⟩ := trodVars_none (show DataW.TrodVars enc Try.prog W (fun _ => true) [] gs q from hV)
  obtain ⟨x, hx, hf⟩ := opened_all (M := (fun _ => True)) kids small_all Try.f7.params.toList A_hauberklaw34_CampaignNone args.toList ds p (by kernel_rfl) hA (fun j t v hj hv => hval j t v (by simpa using hj) (by simpa using hv)) hm
  have hl : ds.length = 4 := by
    have h1 := trodAll_len hA
    have h2 : Try.f7.params.toList.length = 4 := by kernel_rfl
    omega
  have hs : (Rows.campaignNoneSpec.fn H (ds ++ [])).results = [.lit (.bool true)] ∧ (Rows.campaignNoneSpec.fn H (ds ++ [])).args = ds ∧ (Rows.campaignNoneSpec.fn H (ds ++ [])).vars = [] := by
    match ds, hl with
    | [d0, d1, d2, d3], _ => exact ⟨rfl, rfl, rfl⟩
  have := calls x hf hx
  rw [Array.toArray_toList] at this
  refine this.mono fun e W' ⟨he, hg⟩ => ⟨_, he, ?_⟩
  exact law_post kids full (t := 4) (by kernel_rfl) Try.underlying4 (allLt (by kernel_rfl)) rfl hW' hg hs.1 hs.2.1 hs.2.2
set_option maxRecDepth 100000 in
theorem lifted (os : Os) (started : os.Started) (H : Type) (enc : TypeId × Value → H) :
    ReturnsInHanded {} Try.checked os 7 .any (Rows.campaignNoneSpec.pre6 enc Try.prog Try.f7 Rows.campaignNoneRow.domain false) (Rows.campaignNoneSpec.post enc Try.prog Try.f7 false true false false) := by
  refine returnsInHanded_of_change (C := Try.checked) own started (by kernel_rfl) Try.func7
    (ChangeSpec.witness6 (enc := enc) (C := Try.checked) false ⟨#[], #[.string ⟨#[]⟩, .string ⟨#[]⟩, .agg #[.int .i64 0, .int .i64 0, .int .i64 0, .int .i64 0], .int .i64 0], []⟩ 8 (by kernel_rfl) (by kernel_rfl) (by kernel_rfl) (by kernel_rfl)) ?_
  intro W base args ds gs before hval hW _ _
  exact contract H enc W base args ds gs before hval hW (fun _ _ => trivial)
theorem over : Rows.campaignNoneRow.holds Try.pinned (OpenSpec.ofChange Rows.campaignNoneSpec) :=
  OpenClaim.holds_of_wide 7 Try.f7 rfl rfl rfl rfl rfl rfl rfl ⟨rfl, rfl, rfl, rfl, rfl⟩ rfl rfl rfl rfl rfl (by kernel_rfl) Try.func7 (by kernel_rfl)
    (of_decide_eq_true (by kernel_rfl)) (by unfold Func.isWrapper; first | (rw [if_pos (by decide +kernel)]; kernel_rfl) | (rw [if_neg (by decide +kernel)]; exact ⟨rfl, rfl⟩))
    (fun os started H enc _ => lifted os started H enc)
/-- THE STATEMENT -/
theorem proved : Rows.CampaignNoneSaid := over
#print axioms proved
end Go.Proofs.Ytamnhodjidmlcaa.campaignNone
