/- Done twice, without the second look, any one skip changes nothing that can be seen from without. -/
import Derived.Test.YtealbjacocgjcaaGreatRows
import Derived.Test.YtealbjacocgjcaaGreatGateSkipsK33
import Derived.Test.YtealbjacocgjcaaGreatGateSkipsK34
namespace Go.Proofs.YtealbjacocgjcaaGreat.gateSkips
open Go Go.Av Go.Proofs Go.RowKit Go.ChangeAt Go.ChangeShapes
theorem own:ownKnob Tryz.prog.godebug=none:=by kernel_rfl
theorem kids:Kids Tryz.prog (· < Tryz.prog.types.size):=kids_rows (by kernel_rfl) (by kernel_rfl)
theorem full:∀t e,t<Tryz.prog.types.size→Tryz.prog.underlying t=some (.slice e)→0<Tryz.prog.cellsOf e:=slices_full_of _ (by kernel_rfl)
theorem walk (x:dens qR):evF cRE2 drawOk 8 4 7 (avs qR x) [] 64 fin=(qek x).run fun v=>some (⟨.ty .bool,v⟩,[],64):=by kernel_rfl
theorem calls (x:dens qR) (hx:fitsAll maxLen qR x) {W:World} {vs:List Value} (hv:RVs W allOld (avs qR x) vs):Calls Tryz.prog 7 vs.toArray W fun e W'=>e=.returned (.bool true)∧Grew W W' :=
 qm4 cRE2_good 4 8 (by rw[walk,PO.run_val,qjK x hx];rfl) hv
set_option maxRecDepth 100000 in
theorem contract (H:Type) (enc:TypeId×Value→H) (W:World) (base:Nat) (args:Array Value) (ds gs:List (DataW H)) (before:List MemPlace)
  (hval:∀(j:Nat) t v,Tryz.f7.params[j]?=some t→args[j]?=some v→Value.okWide Tryz.prog W .any base t v)
  (hW:DataW.Whole enc Tryz.prog Tryz.f7.params.toList Rows.gateSkipsSpec.vars false W args.toList ds gs before) (hm:∀d∈ds,(fun _=>True) d) :
  Calls Tryz.prog 7 args W fun e W'=>∃v,e=.returned v∧Rows.gateSkipsSpec.post enc Tryz.prog Tryz.f7 false true false false W args v W':=by
 have hW':=hW
 obtain⟨p,q,hA,hV,_,_,_⟩:=hW
 obtain⟨rfl,rfl⟩:=trodVars_none (show DataW.TrodVars enc Tryz.prog W (fun _=>true) [] gs q from hV)
 obtain⟨x,hx,hf⟩:=opened_all (M:=(fun _=>True)) kids small_all Tryz.f7.params.toList qR args.toList ds p (by kernel_rfl) hA (fun j t v hj hv=>hval j t v (by simpa using hj) (by simpa using hv)) hm
 have hl:ds.length=2:=by
  have h1:=trodAll_len hA
  have h2:Tryz.f7.params.toList.length=2:=by kernel_rfl
  omega
 have hs:(Rows.gateSkipsSpec.fn H (ds++[])).results=[.lit (.bool true)]∧(Rows.gateSkipsSpec.fn H (ds++[])).args=ds∧(Rows.gateSkipsSpec.fn H (ds++[])).vars=[]:=by
  match ds,hl with
  |[d0,d1],_=>exact⟨rfl,rfl,rfl⟩
 have:=calls x hf hx
 rw[Array.toArray_toList] at this
 refine this.mono fun e W' ⟨he,hg⟩=>⟨_,he,?_⟩
 exact qm0 kids full (t:=4) (by kernel_rfl) Tryz.underlying4 (allLt (by kernel_rfl)) rfl hW' hg hs.1 hs.2.1 hs.2.2
set_option maxRecDepth 100000 in
theorem lifted (os:Os) (started:os.Started) (H:Type) (enc:TypeId×Value→H) :
  ReturnsInHanded {} Tryz.checked os 7 .any (Rows.gateSkipsSpec.pre6 enc Tryz.prog Tryz.f7 Rows.gateSkipsRow.domain false) (Rows.gateSkipsSpec.post enc Tryz.prog Tryz.f7 false true false false):=by
 refine returnsInHanded_of_change (C:=Tryz.checked) own started (by kernel_rfl) Tryz.func7
  (ChangeSpec.witness6 (enc:=enc) (C:=Tryz.checked) false ⟨#[],#[.agg #[.int .i64 0,.int .i64 0,.slice none 0 0,.bool false],.int .i64 0],[]⟩ 8 (by kernel_rfl) (by kernel_rfl) (by kernel_rfl) (by kernel_rfl)) ?_
 intro W base args ds gs before hval hW _ _
 exact contract H enc W base args ds gs before hval hW (fun _ _=>trivial)
theorem over:Rows.gateSkipsRow.holds Tryz.pinned (OpenSpec.ofChange Rows.gateSkipsSpec) :=
 OpenClaim.holds_of_wide 7 Tryz.f7 rfl rfl rfl rfl rfl rfl rfl ⟨rfl,rfl,rfl,rfl,rfl⟩ rfl rfl rfl rfl rfl (by kernel_rfl) Tryz.func7 (by kernel_rfl)
  (of_decide_eq_true (by kernel_rfl)) (by unfold Func.isWrapper;first|(rw[if_pos (by decide +kernel)];kernel_rfl) |(rw[if_neg (by decide +kernel)];exact⟨rfl,rfl⟩))
  (fun os started H enc _=>lifted os started H enc)
theorem proved:Rows.GateSkipsSaid:=over
#print axioms proved
end Go.Proofs.YtealbjacocgjcaaGreat.gateSkips
