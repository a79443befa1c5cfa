/- What comes of any faults in any image is as the document says, or there is its error: without a condition. -/
import Derived.Test.YtamnhodjidmlcaaGreatRows
import Derived.Test.YtamnhodjidmlcaaGreatCampaignSomeK6
import Derived.Test.YtamnhodjidmlcaaGreatCampaignSomeK8
namespace Go.Proofs.YtamnhodjidmlcaaGreat.campaignSome
open Go Go.Av Go.Proofs Go.RowKit Go.ChangeAt Go.ChangeShapes
theorem own:ownKnob Tryz.prog.godebug=none:=by kernel_rfl
theorem kids:Kids Tryz.prog (· < Tryz.prog.types.size):=kids_rows (by kernel_rfl) (by kernel_rfl)
theorem full:∀t e,t<Tryz.prog.types.size→Tryz.prog.underlying t=some (.slice e)→0<Tryz.prog.cellsOf e:=slices_full_of _ (by kernel_rfl)
theorem walk (x:qc qb1):evF qNd qeQ 12 4 5 (avs qb1 x) [] 64 fin=(qil x).run fun v=>some (⟨.ty .bool,v⟩,[],64):=by kernel_rfl
theorem calls (x:qc qb1) (hx:qx3 maxLen qb1 x) {W:World} {vs:List Value} (hv:RVs W qo7 (avs qb1 x) vs):Calls Tryz.prog 5 vs.toArray W fun e W'=>e=.returned (.bool true)∧qJB W W' :=
 qRk qJ2 4 12 (by rw[walk,PO.qpS,qq0 x hx];rfl) hv
set_option maxRecDepth 100000 in
theorem contract (H:Type) (enc:TypeId×Value→H) (W:World) (base:Nat) (args:Array Value) (ds gs:List (DataW H)) (before:List MemPlace)
  (hval:∀(j:Nat) t v,Tryz.f5.params[j]?=some t→args[j]?=some v→Value.okWide Tryz.prog W .any base t v)
  (hW:DataW.Whole enc Tryz.prog Tryz.f5.params.toList Rows.campaignSomeSpec.vars false W args.toList ds gs before) (hm:∀d∈ds,(fun _=>True) d) :
  Calls Tryz.prog 5 args W fun e W'=>∃v,e=.returned v∧Rows.campaignSomeSpec.post enc Tryz.prog Tryz.f5 false true false false W args v W':=by
 have hW':=hW
 obtain⟨p,q,hA,hV,_,_,_⟩:=hW
 obtain⟨rfl,rfl⟩:=trodVars_none (show DataW.TrodVars enc Tryz.prog W (fun _=>true) [] gs q from hV)
 obtain⟨x,hx,hf⟩:=qy9 (M:=(fun _=>True)) kids qMq Tryz.f5.params.toList qb1 args.toList ds p (by kernel_rfl) hA (fun j t v hj hv=>hval j t v (by simpa using hj) (by simpa using hv)) hm
 have hl:ds.length=4:=by
  have h1:=qyA hA
  have h2:Tryz.f5.params.toList.length=4:=by kernel_rfl
  omega
 have hs:(Rows.campaignSomeSpec.fn H (ds++[])).results=[.lit (.bool true)]∧(Rows.campaignSomeSpec.fn H (ds++[])).args=ds∧(Rows.campaignSomeSpec.fn H (ds++[])).vars=[]:=by
  match ds,hl with
  |[d0,d1,d2,d3],_=>exact⟨rfl,rfl,rfl⟩
 have:=calls x hf hx
 rw[Array.toArray_toList] at this
 refine this.mono fun e W' ⟨he,hg⟩=>⟨_,he,?_⟩
 exact qOS kids full (t:=4) (by kernel_rfl) Tryz.underlying4 (qSL (by kernel_rfl)) rfl hW' hg hs.1 hs.2.1 hs.2.2
set_option maxRecDepth 100000 in
theorem lifted (os:Os) (started:os.Started) (H:Type) (enc:TypeId×Value→H) :
  ReturnsInHanded {} Tryz.checked os 5 .any (Rows.campaignSomeSpec.pre6 enc Tryz.prog Tryz.f5 Rows.campaignSomeRow.domain false) (Rows.campaignSomeSpec.post enc Tryz.prog Tryz.f5 false true false false):=by
 refine returnsInHanded_of_change (C:=Tryz.checked) own started (by kernel_rfl) Tryz.func5
  (ChangeSpec.witness6 (enc:=enc) (C:=Tryz.checked) false ⟨#[],#[.string ⟨#[]⟩,.string ⟨#[]⟩,.slice none 0 0,.int .i64 0],[]⟩ 8 (by kernel_rfl) (by kernel_rfl) (by kernel_rfl) (by kernel_rfl)) ?_
 intro W base args ds gs before hval hW _ _
 exact contract H enc W base args ds gs before hval hW (fun _ _=>trivial)
theorem over:Rows.campaignSomeRow.holds Tryz.pinned (OpenSpec.ofChange Rows.campaignSomeSpec) :=
 OpenClaim.holds_of_wide 5 Tryz.f5 rfl rfl rfl rfl rfl rfl rfl ⟨rfl,rfl,rfl,rfl,rfl⟩ rfl rfl rfl rfl rfl (by kernel_rfl) Tryz.func5 (by kernel_rfl)
  (of_decide_eq_true (by kernel_rfl)) (by unfold Func.isWrapper;first|(rw[if_pos (by decide +kernel)];kernel_rfl) |(rw[if_neg (by decide +kernel)];exact⟨rfl,rfl⟩))
  (fun os started H enc _=>lifted os started H enc)
theorem proved:Rows.CampaignSomeSaid:=over
#print axioms proved
end Go.Proofs.YtamnhodjidmlcaaGreat.campaignSome
