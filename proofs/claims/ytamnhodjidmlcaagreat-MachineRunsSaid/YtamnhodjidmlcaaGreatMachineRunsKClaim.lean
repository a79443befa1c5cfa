/- What any run leaves, with any fault, is as the document says, or there is its error: for every image, input, fault and budget (images of at most 400 bytes, budgets of at most 80, output and rail of at most 400 bytes; else the example is told). -/
import Derived.Test.YtamnhodjidmlcaaGreatRows
import Derived.Test.YtamnhodjidmlcaaGreatMachineRunsK6
import Derived.Test.YtamnhodjidmlcaaGreatMachineRunsK7
namespace Go.Proofs.YtamnhodjidmlcaaGreat.machineRuns
open Go Go.Av Go.Proofs Go.RowKit Go.ChangeAt Go.ChangeShapes
theorem own:ownKnob Tryz.prog.godebug=none:=by kernel_rfl
theorem kids:Kids Tryz.prog (· < Tryz.prog.types.size):=kids_rows (by kernel_rfl) (by kernel_rfl)
theorem full:∀t e,t<Tryz.prog.types.size→Tryz.prog.underlying t=some (.slice e)→0<Tryz.prog.cellsOf e:=slices_full_of _ (by kernel_rfl)
theorem walk (x:qc qb6):evF qLD qes 12 4 3 (avs qb6 x) [] 64 fin=(qiV x).run fun v=>some (⟨.ty .bool,v⟩,[],64):=by kernel_rfl
theorem calls (x:qc qb6) (hx:qtx maxLen qb6 x) {W:World} {vs:List Value} (hv:RVs W qnM (avs qb6 x) vs):Calls Tryz.prog 3 vs.toArray W fun e W'=>e=.returned (.bool true)∧qA2 W W' :=
 qNe qAA 4 12 (by rw[walk,PO.qoU,qrm x hx];rfl) hv
set_option maxRecDepth 100000 in
theorem contract (H:Type) (enc:TypeId×Value→H) (W:World) (base:Nat) (args:Array Value) (ds gs:List (DataW H)) (before:List MemPlace)
  (hval:∀(j:Nat) t v,Tryz.f3.params[j]?=some t→args[j]?=some v→Value.okWide Tryz.prog W .any base t v)
  (hW:DataW.Whole enc Tryz.prog Tryz.f3.params.toList Rows.machineRunsSpec.vars false W args.toList ds gs before) (hm:∀d∈ds,(fun _=>True) d) :
  Calls Tryz.prog 3 args W fun e W'=>∃v,e=.returned v∧Rows.machineRunsSpec.post enc Tryz.prog Tryz.f3 false true false false W args v W':=by
 have hW':=hW
 obtain⟨p,q,hA,hV,_,_,_⟩:=hW
 obtain⟨rfl,rfl⟩:=trodVars_none (show DataW.TrodVars enc Tryz.prog W (fun _=>true) [] gs q from hV)
 obtain⟨x,hx,hf⟩:=qv4 (M:=(fun _=>True)) kids qBu Tryz.f3.params.toList qb6 args.toList ds p (by kernel_rfl) hA (fun j t v hj hv=>hval j t v (by simpa using hj) (by simpa using hv)) hm
 have hl:ds.length=4:=by
  have h1:=quK hA
  have h2:Tryz.f3.params.toList.length=4:=by kernel_rfl
  omega
 have hs:(Rows.machineRunsSpec.fn H (ds++[])).results=[.lit (.bool true)]∧(Rows.machineRunsSpec.fn H (ds++[])).args=ds∧(Rows.machineRunsSpec.fn H (ds++[])).vars=[]:=by
  match ds,hl with
  |[d0,d1,d2,d3],_=>exact⟨rfl,rfl,rfl⟩
 have:=calls x hf hx
 rw[Array.toArray_toList] at this
 refine this.mono fun e W' ⟨he,hg⟩=>⟨_,he,?_⟩
 exact qGO kids full (t:=4) (by kernel_rfl) Tryz.underlying4 (qPL (by kernel_rfl)) rfl hW' hg hs.1 hs.2.1 hs.2.2
set_option maxRecDepth 100000 in
theorem lifted (os:Os) (started:os.Started) (H:Type) (enc:TypeId×Value→H) :
  ReturnsInHanded {} Tryz.checked os 3 .any (Rows.machineRunsSpec.pre6 enc Tryz.prog Tryz.f3 Rows.machineRunsRow.domain false) (Rows.machineRunsSpec.post enc Tryz.prog Tryz.f3 false true false false):=by
 refine returnsInHanded_of_change (C:=Tryz.checked) own started (by kernel_rfl) Tryz.func3
  (ChangeSpec.witness6 (enc:=enc) (C:=Tryz.checked) false ⟨#[],#[.string ⟨#[]⟩,.string ⟨#[]⟩,.agg #[.int .i64 0,.int .i64 0,.int .i64 0,.int .i64 0],.int .i64 0],[]⟩ 8 (by kernel_rfl) (by kernel_rfl) (by kernel_rfl) (by kernel_rfl)) ?_
 intro W base args ds gs before hval hW _ _
 exact contract H enc W base args ds gs before hval hW (fun _ _=>trivial)
theorem over:Rows.machineRunsRow.holds Tryz.pinned (OpenSpec.ofChange Rows.machineRunsSpec) :=
 OpenClaim.holds_of_wide 3 Tryz.f3 rfl rfl rfl rfl rfl rfl rfl ⟨rfl,rfl,rfl,rfl,rfl⟩ rfl rfl rfl rfl rfl (by kernel_rfl) Tryz.func3 (by kernel_rfl)
  (of_decide_eq_true (by kernel_rfl)) (by unfold Func.isWrapper;first|(rw[if_pos (by decide +kernel)];kernel_rfl) |(rw[if_neg (by decide +kernel)];exact⟨rfl,rfl⟩))
  (fun os started H enc _=>lifted os started H enc)
theorem proved:Rows.MachineRunsSaid:=over
#print axioms proved
end Go.Proofs.YtamnhodjidmlcaaGreat.machineRuns
