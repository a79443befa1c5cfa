/- Texts of the proof, one behind the other. -/
import Derived.Test.YtealbjacocgjcaaGreatGateFaultK16
import Derived.RowKit3
section
namespace Go.Av
open Go Go.RowKit
theorem qbz.none {C:Ctx} (h:∀f r,C.loops f r=Option.none) (h2:∀f r,C.cuts f r=Option.none) {f n:Nat}:∀c:Code,qbz C f n c:=by
 intro c
 induction c with
 |seq x y ihx ihy =>
  refine⟨fun L hL=>?_,ihx,ihy⟩
  cases hq:qvx x with
  |none=>rw[hq] at hL;cases hL
  |some q=>rw[hq] at hL;simp only[Option.bind_some,h2] at hL;cases hL
 |cond cd x y ihx ihy=>exact⟨ihx,ihy⟩
 |block id c ih=>exact ih
 |loop c ih =>
  refine⟨fun L hL=>?_,ih⟩
  cases hq:qg4 c with
  |none=>rw[hq] at hL;cases hL
  |some q=>rw[hq] at hL;simp only[Option.bind_some,h] at hL;cases hL
 |scope c ih=>exact ih
 |_=>trivial
def qH7 (P:Program) (eqs:List TypeId):Ctx:={P:=P,eqs:=eqs,plain:=fun _=>Option.none,loops:=fun _ _=>Option.none}
theorem qLT {P : Program} {eqs : List TypeId} (h1 : eqs.all (qzM P) = true) (h2 : (P.funcs.toList.all fun fn => fn.name != "runtime.NumGoroutine") = true) (h3 : P.follows .mixedOrders = true) : Good (qH7 P eqs) := by
 have hc:CtxOk (qH7 P eqs):={
  eqs:=h1
  plain:=fun _ _ h=>by cases h
  snap:=fun _ _ h=>by cases h
  gets:=fun _ _ h=>by cases h
  bodyOk:=fun _ _ h=>by cases h
  bodyFn:=fun _ _ h=>by cases h
  names:=fun f fn hf hn=>by
   have:=List.all_eq_true.1 h2 fn (by
    have hf':P.funcs[f]?=some fn:=hf
    rw[←Array.getElem?_toList] at hf'
    exact List.mem_of_getElem? hf')
   simp[hn] at this
  plainBody:=fun _ _ h=>by cases h
  mixed:=h3}
 exact{toCtxOk:=hc,drawn:=qpb hc,loops:=fun _ _ c _ _=>qbz.none (fun _ _=>rfl) (fun _ _=>rfl) c}
def qmB:Kinds:=fun _=>.old
def qCI (w w':World):Prop:=w.keptBut w' (fun _=>False)∧(∀a:Addr,a.block<w.heap.size→w'.frozen? a=w.frozen? a)∧w.heap.size≤w'.heap.size
theorem qME {w w':World} {K':Kinds} (g:Ext w qmB w' K'):qCI w w':=by
 refine⟨⟨g.os,g.output,fun i hi=>?_⟩,fun a ha=>World.frozen?_of_block (g.fix _ ha rfl).2,g.size⟩
 rw[(g.fix i hi rfl).2]
 cases w.heap[i]? with
 |none=>rfl
 |some o=>cases o<;>simp
theorem qQ1 {C:Ctx} (hC:Good C) (d unroll:Nat) {f:FuncId} {args:List AV} (h:evF C qd7 unroll d f args [] 64 fin=some (.bool true,[],64)) {w:World} {vs:List Value} (hv:RVs w qmB args vs) :
  Calls C.P f vs.toArray w fun e w'=>e=.returned (.bool true)∧qCI w w':=by
 refine(qrI hC unroll d f).1 _ _ _ _ _ h w qmB vs hv ⟨(fun _ _ _ hk=>by cases hk),(fun _ _ _ _ _ hk _=>by cases hk)⟩ _ (fun av u h' nx' w' K' g hrv hh hkc=>?_) (fun u h' nx' w' K' g hh hkc=>by cases hkc)
 unfold fin at hkc
 split at hkc
 ·cases hkc
 unfold tidy at hkc
 simp only[List.map_cons,List.map_nil,Option.some.injEq,Prod.mk.injEq] at hkc
 obtain⟨e1,e2,_⟩:=hkc
 have:=qzR (B:=0) (ρ:=qpK (qdw [] (allRows [av]++qj7 (below 0 h')))) hrv
 rw[e1] at this
 exact⟨by rw[RV.bool this],qME g⟩
end Go.Av
end
