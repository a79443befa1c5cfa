/- With one mask in both rails a branch goes to Yes of all ones, and to No of 0; with any one fault it goes there or to the handler; of words that are no mask, or are unlike, it goes to the handler. -/
import Derived.Test.YtealbjacocgjcaaGreatRows
import Derived.Test.YtealbjacocgjcaaGreatRailGK33
import Derived.Test.YtealbjacocgjcaaGreatRailGK34
namespace Go.Proofs.YtealbjacocgjcaaGreat.railGoes
open Go Go.Av Go.Proofs Go.RowKit Go.ChangeAt Go.ChangeShapes
theorem own:ownKnob Tryz.prog.godebug=none:=by kernel_rfl
theorem kids:Kids Tryz.prog (· < Tryz.prog.types.size):=kids_rows (by kernel_rfl) (by kernel_rfl)
theorem full:∀t e,t<Tryz.prog.types.size→Tryz.prog.underlying t=some (.slice e)→0<Tryz.prog.cellsOf e:=slices_full_of _ (by kernel_rfl)
theorem walk (x:dens q6):evF cRE3 drawOk 12 8 4 (avs q6 x) [] 64 fin=(qem x).run fun v=>some (⟨.ty .bool,v⟩,[],64):=by kernel_rfl
theorem calls (x:dens q6) (hx:fitsAll maxLen q6 x) {W:World} {vs:List Value} (hv:RVs W allOld (avs q6 x) vs):Calls Tryz.prog 4 vs.toArray W fun e W'=>e=.returned (.bool true)∧Grew W W' :=
 qnF cRE3_good 8 12 (by rw[walk,PO.run_val,qj7 x hx];rfl) hv
set_option maxRecDepth 100000 in
theorem contract (H:Type) (enc:TypeId×Value→H) (W:World) (base:Nat) (args:Array Value) (ds gs:List (DataW H)) (before:List MemPlace)
  (hval:∀(j:Nat) t v,Tryz.f4.params[j]?=some t→args[j]?=some v→Value.okWide Tryz.prog W .any base t v)
  (hW:DataW.Whole enc Tryz.prog Tryz.f4.params.toList Rows.railGoesSpec.vars false W args.toList ds gs before) (hm:∀d∈ds,(fun _=>True) d) :
  Calls Tryz.prog 4 args W fun e W'=>∃v,e=.returned v∧Rows.railGoesSpec.post enc Tryz.prog Tryz.f4 false true false false W args v W':=by
 have hW':=hW
 obtain⟨p,q,hA,hV,_,_,_⟩:=hW
 obtain⟨rfl,rfl⟩:=trodVars_none (show DataW.TrodVars enc Tryz.prog W (fun _=>true) [] gs q from hV)
 obtain⟨x,hx,hf⟩:=opened_all (M:=(fun _=>True)) kids small_all Tryz.f4.params.toList q6 args.toList ds p (by kernel_rfl) hA (fun j t v hj hv=>hval j t v (by simpa using hj) (by simpa using hv)) hm
 have hl:ds.length=3:=by
  have h1:=trodAll_len hA
  have h2:Tryz.f4.params.toList.length=3:=by kernel_rfl
  omega
 have hs:(Rows.railGoesSpec.fn H (ds++[])).results=[.lit (.bool true)]∧(Rows.railGoesSpec.fn H (ds++[])).args=ds∧(Rows.railGoesSpec.fn H (ds++[])).vars=[]:=by
  match ds,hl with
  |[d0,d1,d2],_=>exact⟨rfl,rfl,rfl⟩
 have:=calls x hf hx
 rw[Array.toArray_toList] at this
 refine this.mono fun e W' ⟨he,hg⟩=>⟨_,he,?_⟩
 exact qm3 kids full (t:=4) (by kernel_rfl) Tryz.underlying4 (allLt (by kernel_rfl)) rfl hW' hg hs.1 hs.2.1 hs.2.2
set_option maxRecDepth 100000 in
theorem lifted (os:Os) (started:os.Started) (H:Type) (enc:TypeId×Value→H) :
  ReturnsInHanded {} Tryz.checked os 4 .any (Rows.railGoesSpec.pre6 enc Tryz.prog Tryz.f4 Rows.railGoesRow.domain false) (Rows.railGoesSpec.post enc Tryz.prog Tryz.f4 false true false false):=by
 refine returnsInHanded_of_change (C:=Tryz.checked) own started (by kernel_rfl) Tryz.func4
  (ChangeSpec.witness6 (enc:=enc) (C:=Tryz.checked) false ⟨#[],#[.int .i64 0,.int .i64 0,.agg #[.int .i64 0,.int .i64 0,.int .i64 0,.int .i64 0]],[]⟩ 8 (by kernel_rfl) (by kernel_rfl) (by kernel_rfl) (by kernel_rfl)) ?_
 intro W base args ds gs before hval hW _ _
 exact contract H enc W base args ds gs before hval hW (fun _ _=>trivial)
theorem over:Rows.railGoesRow.holds Tryz.pinned (OpenSpec.ofChange Rows.railGoesSpec) :=
 OpenClaim.holds_of_wide 4 Tryz.f4 rfl rfl rfl rfl rfl rfl rfl ⟨rfl,rfl,rfl,rfl,rfl⟩ rfl rfl rfl rfl rfl (by kernel_rfl) Tryz.func4 (by kernel_rfl)
  (of_decide_eq_true (by kernel_rfl)) (by unfold Func.isWrapper;first|(rw[if_pos (by decide +kernel)];kernel_rfl) |(rw[if_neg (by decide +kernel)];exact⟨rfl,rfl⟩))
  (fun os started H enc _=>lifted os started H enc)
theorem proved:Rows.RailGoesSaid:=over
#print axioms proved
end Go.Proofs.YtealbjacocgjcaaGreat.railGoes
