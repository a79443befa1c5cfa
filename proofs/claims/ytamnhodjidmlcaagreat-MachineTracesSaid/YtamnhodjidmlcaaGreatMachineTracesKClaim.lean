/- What can be seen of any run is as the document says, or there is its error: for every image, input and budget (images of at most 400 bytes, budgets of at most 80, output and rail of at most 400 bytes; else the example is told). -/
import Derived.Test.YtamnhodjidmlcaaGreatRows
import Derived.Test.YtamnhodjidmlcaaGreatMachineRunsK6
import Derived.Test.YtamnhodjidmlcaaGreatMachineRunsK7
namespace Go.Proofs.YtamnhodjidmlcaaGreat.machineTraces
open Go Go.Av Go.Proofs Go.RowKit Go.ChangeAt Go.ChangeShapes
theorem own:ownKnob Tryz.prog.godebug=none:=by kernel_rfl
theorem kids:Kids Tryz.prog (· < Tryz.prog.types.size):=kids_rows (by kernel_rfl) (by kernel_rfl)
theorem full:∀t e,t<Tryz.prog.types.size→Tryz.prog.underlying t=some (.slice e)→0<Tryz.prog.cellsOf e:=slices_full_of _ (by kernel_rfl)
theorem walk (x:qc qbU):evF qLD qes 12 4 4 (avs qbU x) [] 64 fin=(qhC x).run fun v=>some (⟨.ty .bool,v⟩,[],64):=by kernel_rfl
theorem calls (x:qc qbU) (hx:qtx maxLen qbU x) {W:World} {vs:List Value} (hv:RVs W qnM (avs qbU x) vs):Calls Tryz.prog 4 vs.toArray W fun e W'=>e=.returned (.bool true)∧qA2 W W' :=
 qNe qAA 4 12 (by rw[walk,PO.qoU,qre x hx];rfl) hv
set_option maxRecDepth 100000 in
theorem contract (H:Type) (enc:TypeId×Value→H) (W:World) (base:Nat) (args:Array Value) (ds gs:List (DataW H)) (before:List MemPlace)
  (hval:∀(j:Nat) t v,Tryz.f4.params[j]?=some t→args[j]?=some v→Value.okWide Tryz.prog W .any base t v)
  (hW:DataW.Whole enc Tryz.prog Tryz.f4.params.toList Rows.machineTracesSpec.vars false W args.toList ds gs before) (hm:∀d∈ds,(fun _=>True) d) :
  Calls Tryz.prog 4 args W fun e W'=>∃v,e=.returned v∧Rows.machineTracesSpec.post enc Tryz.prog Tryz.f4 false true false false W args v W':=by
 have hW':=hW
 obtain⟨p,q,hA,hV,_,_,_⟩:=hW
 obtain⟨rfl,rfl⟩:=trodVars_none (show DataW.TrodVars enc Tryz.prog W (fun _=>true) [] gs q from hV)
 obtain⟨x,hx,hf⟩:=qv4 (M:=(fun _=>True)) kids qBu Tryz.f4.params.toList qbU args.toList ds p (by kernel_rfl) hA (fun j t v hj hv=>hval j t v (by simpa using hj) (by simpa using hv)) hm
 have hl:ds.length=3:=by
  have h1:=quK hA
  have h2:Tryz.f4.params.toList.length=3:=by kernel_rfl
  omega
 have hs:(Rows.machineTracesSpec.fn H (ds++[])).results=[.lit (.bool true)]∧(Rows.machineTracesSpec.fn H (ds++[])).args=ds∧(Rows.machineTracesSpec.fn H (ds++[])).vars=[]:=by
  match ds,hl with
  |[d0,d1,d2],_=>exact⟨rfl,rfl,rfl⟩
 have:=calls x hf hx
 rw[Array.toArray_toList] at this
 refine this.mono fun e W' ⟨he,hg⟩=>⟨_,he,?_⟩
 exact qGO kids full (t:=4) (by kernel_rfl) Tryz.underlying4 (qPL (by kernel_rfl)) rfl hW' hg hs.1 hs.2.1 hs.2.2
set_option maxRecDepth 100000 in
theorem lifted (os:Os) (started:os.Started) (H:Type) (enc:TypeId×Value→H) :
  ReturnsInHanded {} Tryz.checked os 4 .any (Rows.machineTracesSpec.pre6 enc Tryz.prog Tryz.f4 Rows.machineTracesRow.domain false) (Rows.machineTracesSpec.post enc Tryz.prog Tryz.f4 false true false false):=by
 refine returnsInHanded_of_change (C:=Tryz.checked) own started (by kernel_rfl) Tryz.func4
  (ChangeSpec.witness6 (enc:=enc) (C:=Tryz.checked) false ⟨#[],#[.string ⟨#[]⟩,.string ⟨#[]⟩,.int .i64 0],[]⟩ 8 (by kernel_rfl) (by kernel_rfl) (by kernel_rfl) (by kernel_rfl)) ?_
 intro W base args ds gs before hval hW _ _
 exact contract H enc W base args ds gs before hval hW (fun _ _=>trivial)
theorem over:Rows.machineTracesRow.holds Tryz.pinned (OpenSpec.ofChange Rows.machineTracesSpec) :=
 OpenClaim.holds_of_wide 4 Tryz.f4 rfl rfl rfl rfl rfl rfl rfl ⟨rfl,rfl,rfl,rfl,rfl⟩ rfl rfl rfl rfl rfl (by kernel_rfl) Tryz.func4 (by kernel_rfl)
  (of_decide_eq_true (by kernel_rfl)) (by unfold Func.isWrapper;first|(rw[if_pos (by decide +kernel)];kernel_rfl) |(rw[if_neg (by decide +kernel)];exact⟨rfl,rfl⟩))
  (fun os started H enc _=>lifted os started H enc)
theorem proved:Rows.MachineTracesSaid:=over
#print axioms proved
end Go.Proofs.YtamnhodjidmlcaaGreat.machineTraces
