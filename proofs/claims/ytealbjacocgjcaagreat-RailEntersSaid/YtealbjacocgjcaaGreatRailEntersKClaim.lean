/- With its tag in both rails a block is entered; with another word in one of them the handler is; with the tag in both and any one fault either is. -/
import Derived.Test.YtealbjacocgjcaaGreatRows
import Derived.Test.YtealbjacocgjcaaGreatRailGK33
import Derived.Test.YtealbjacocgjcaaGreatRailGK34
namespace Go.Proofs.YtealbjacocgjcaaGreat.railEnters
open Go Go.Av Go.Proofs Go.RowKit Go.ChangeAt Go.ChangeShapes
theorem own:ownKnob Tryz.prog.godebug=none:=by kernel_rfl
theorem kids:Kids Tryz.prog (· < Tryz.prog.types.size):=kids_rows (by kernel_rfl) (by kernel_rfl)
theorem full:∀t e,t<Tryz.prog.types.size→Tryz.prog.underlying t=some (.slice e)→0<Tryz.prog.cellsOf e:=slices_full_of _ (by kernel_rfl)
theorem walk (x:dens qS):evF cRE3 drawOk 12 8 3 (avs qS x) [] 64 fin=(qdN x).run fun v=>some (⟨.ty .bool,v⟩,[],64):=by kernel_rfl
theorem calls (x:dens qS) (hx:fitsAll maxLen qS x) {W:World} {vs:List Value} (hv:RVs W allOld (avs qS x) vs):Calls Tryz.prog 3 vs.toArray W fun e W'=>e=.returned (.bool true)∧Grew W W' :=
 qnF cRE3_good 8 12 (by rw[walk,PO.run_val,qjz x hx];rfl) hv
set_option maxRecDepth 100000 in
theorem contract (H:Type) (enc:TypeId×Value→H) (W:World) (base:Nat) (args:Array Value) (ds gs:List (DataW H)) (before:List MemPlace)
  (hval:∀(j:Nat) t v,Tryz.f3.params[j]?=some t→args[j]?=some v→Value.okWide Tryz.prog W .any base t v)
  (hW:DataW.Whole enc Tryz.prog Tryz.f3.params.toList Rows.railEntersSpec.vars false W args.toList ds gs before) (hm:∀d∈ds,(fun _=>True) d) :
  Calls Tryz.prog 3 args W fun e W'=>∃v,e=.returned v∧Rows.railEntersSpec.post enc Tryz.prog Tryz.f3 false true false false W args v W':=by
 have hW':=hW
 obtain⟨p,q,hA,hV,_,_,_⟩:=hW
 obtain⟨rfl,rfl⟩:=trodVars_none (show DataW.TrodVars enc Tryz.prog W (fun _=>true) [] gs q from hV)
 obtain⟨x,hx,hf⟩:=opened_all (M:=(fun _=>True)) kids small_all Tryz.f3.params.toList qS args.toList ds p (by kernel_rfl) hA (fun j t v hj hv=>hval j t v (by simpa using hj) (by simpa using hv)) hm
 have hl:ds.length=4:=by
  have h1:=trodAll_len hA
  have h2:Tryz.f3.params.toList.length=4:=by kernel_rfl
  omega
 have hs:(Rows.railEntersSpec.fn H (ds++[])).results=[.lit (.bool true)]∧(Rows.railEntersSpec.fn H (ds++[])).args=ds∧(Rows.railEntersSpec.fn H (ds++[])).vars=[]:=by
  match ds,hl with
  |[d0,d1,d2,d3],_=>exact⟨rfl,rfl,rfl⟩
 have:=calls x hf hx
 rw[Array.toArray_toList] at this
 refine this.mono fun e W' ⟨he,hg⟩=>⟨_,he,?_⟩
 exact qm3 kids full (t:=4) (by kernel_rfl) Tryz.underlying4 (allLt (by kernel_rfl)) rfl hW' hg hs.1 hs.2.1 hs.2.2
set_option maxRecDepth 100000 in
theorem lifted (os:Os) (started:os.Started) (H:Type) (enc:TypeId×Value→H) :
  ReturnsInHanded {} Tryz.checked os 3 .any (Rows.railEntersSpec.pre6 enc Tryz.prog Tryz.f3 Rows.railEntersRow.domain false) (Rows.railEntersSpec.post enc Tryz.prog Tryz.f3 false true false false):=by
 refine returnsInHanded_of_change (C:=Tryz.checked) own started (by kernel_rfl) Tryz.func3
  (ChangeSpec.witness6 (enc:=enc) (C:=Tryz.checked) false ⟨#[],#[.int .i64 0,.int .i64 0,.int .i64 0,.agg #[.int .i64 0,.int .i64 0,.int .i64 0,.int .i64 0]],[]⟩ 8 (by kernel_rfl) (by kernel_rfl) (by kernel_rfl) (by kernel_rfl)) ?_
 intro W base args ds gs before hval hW _ _
 exact contract H enc W base args ds gs before hval hW (fun _ _=>trivial)
theorem over:Rows.railEntersRow.holds Tryz.pinned (OpenSpec.ofChange Rows.railEntersSpec) :=
 OpenClaim.holds_of_wide 3 Tryz.f3 rfl rfl rfl rfl rfl rfl rfl ⟨rfl,rfl,rfl,rfl,rfl⟩ rfl rfl rfl rfl rfl (by kernel_rfl) Tryz.func3 (by kernel_rfl)
  (of_decide_eq_true (by kernel_rfl)) (by unfold Func.isWrapper;first|(rw[if_pos (by decide +kernel)];kernel_rfl) |(rw[if_neg (by decide +kernel)];exact⟨rfl,rfl⟩))
  (fun os started H enc _=>lifted os started H enc)
theorem proved:Rows.RailEntersSaid:=over
#print axioms proved
end Go.Proofs.YtealbjacocgjcaaGreat.railEnters
