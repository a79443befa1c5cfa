/- Where both rails have the same image, with any one fault the gate halts, within Slack more steps than without; Released only with that image; and all is wiped, if the handler was entered. -/
import Derived.Test.YtealbjacocgjcaaGreatRows
import Derived.Test.YtealbjacocgjcaaGreatGateFaultK33
import Derived.Test.YtealbjacocgjcaaGreatGateFaultK34
namespace Go.Proofs.YtealbjacocgjcaaGreat.gateFault
open Go Go.Av Go.Proofs Go.RowKit Go.ChangeAt Go.ChangeShapes
theorem own:ownKnob Tryz.prog.godebug=none:=by kernel_rfl
theorem kids:Kids Tryz.prog (· < Tryz.prog.types.size):=kids_rows (by kernel_rfl) (by kernel_rfl)
theorem full:∀t e,t<Tryz.prog.types.size→Tryz.prog.underlying t=some (.slice e)→0<Tryz.prog.cellsOf e:=slices_full_of _ (by kernel_rfl)
theorem walk (x:qd qb2):evF qQJ qd7 8 4 9 (avs qb2 x) [] 64 fin=(qhK x).run fun v=>some (⟨.ty .bool,v⟩,[],64):=by kernel_rfl
theorem calls (x:qd qb2) (hx:qv2 maxLen qb2 x) {W:World} {vs:List Value} (hv:RVs W qmB (avs qb2 x) vs):Calls Tryz.prog 9 vs.toArray W fun e W'=>e=.returned (.bool true)∧qCI W W' :=
 qQ1 qKV 4 8 (by rw[walk,PO.qnw,qqh x hx];rfl) hv
set_option maxRecDepth 100000 in
theorem contract (H:Type) (enc:TypeId×Value→H) (W:World) (base:Nat) (args:Array Value) (ds gs:List (DataW H)) (before:List MemPlace)
  (hval:∀(j:Nat) t v,Tryz.f9.params[j]?=some t→args[j]?=some v→Value.okWide Tryz.prog W .any base t v)
  (hW:DataW.Whole enc Tryz.prog Tryz.f9.params.toList Rows.gateFaultSpec.vars false W args.toList ds gs before) (hm:∀d∈ds,(fun _=>True) d) :
  Calls Tryz.prog 9 args W fun e W'=>∃v,e=.returned v∧Rows.gateFaultSpec.post enc Tryz.prog Tryz.f9 false true false false W args v W':=by
 have hW':=hW
 obtain⟨p,q,hA,hV,_,_,_⟩:=hW
 obtain⟨rfl,rfl⟩:=trodVars_none (show DataW.TrodVars enc Tryz.prog W (fun _=>true) [] gs q from hV)
 obtain⟨x,hx,hf⟩:=qxX (M:=(fun _=>True)) kids qKD Tryz.f9.params.toList qb2 args.toList ds p (by kernel_rfl) hA (fun j t v hj hv=>hval j t v (by simpa using hj) (by simpa using hv)) hm
 have hl:ds.length=2:=by
  have h1:=qwN hA
  have h2:Tryz.f9.params.toList.length=2:=by kernel_rfl
  omega
 have hs:(Rows.gateFaultSpec.fn H (ds++[])).results=[.lit (.bool true)]∧(Rows.gateFaultSpec.fn H (ds++[])).args=ds∧(Rows.gateFaultSpec.fn H (ds++[])).vars=[]:=by
  match ds,hl with
  |[d0,d1],_=>exact⟨rfl,rfl,rfl⟩
 have:=calls x hf hx
 rw[Array.toArray_toList] at this
 refine this.mono fun e W' ⟨he,hg⟩=>⟨_,he,?_⟩
 exact qNb kids full (t:=4) (by kernel_rfl) Tryz.underlying4 (qRz (by kernel_rfl)) rfl hW' hg hs.1 hs.2.1 hs.2.2
set_option maxRecDepth 100000 in
theorem lifted (os:Os) (started:os.Started) (H:Type) (enc:TypeId×Value→H) :
  ReturnsInHanded {} Tryz.checked os 9 .any (Rows.gateFaultSpec.pre6 enc Tryz.prog Tryz.f9 Rows.gateFaultRow.domain false) (Rows.gateFaultSpec.post enc Tryz.prog Tryz.f9 false true false false):=by
 refine returnsInHanded_of_change (C:=Tryz.checked) own started (by kernel_rfl) Tryz.func9
  (ChangeSpec.witness6 (enc:=enc) (C:=Tryz.checked) false ⟨#[],#[.agg #[.int .i64 0,.int .i64 0,.slice none 0 0,.bool false],.agg #[.int .i64 0,.int .i64 0,.int .i64 0,.int .i64 0]],[]⟩ 8 (by kernel_rfl) (by kernel_rfl) (by kernel_rfl) (by kernel_rfl)) ?_
 intro W base args ds gs before hval hW _ _
 exact contract H enc W base args ds gs before hval hW (fun _ _=>trivial)
theorem over:Rows.gateFaultRow.holds Tryz.pinned (OpenSpec.ofChange Rows.gateFaultSpec) :=
 OpenClaim.holds_of_wide 9 Tryz.f9 rfl rfl rfl rfl rfl rfl rfl ⟨rfl,rfl,rfl,rfl,rfl⟩ rfl rfl rfl rfl rfl (by kernel_rfl) Tryz.func9 (by kernel_rfl)
  (of_decide_eq_true (by kernel_rfl)) (by unfold Func.isWrapper;first|(rw[if_pos (by decide +kernel)];kernel_rfl) |(rw[if_neg (by decide +kernel)];exact⟨rfl,rfl⟩))
  (fun os started H enc _=>lifted os started H enc)
theorem proved:Rows.GateFaultSaid:=over
#print axioms proved
end Go.Proofs.YtealbjacocgjcaaGreat.gateFault
