/- Texts of the proof, one behind the other. -/
import Derived.Test.YtealbjacocgjcaaGreatGateFaultK7
section
namespace Go.Av
open Go
def qtN (w:World) (b:Nat) (o:Obj):World:={w with heap:=w.heap.setIfInBounds b o}
section
variable {P:Program} {w:World}
theorem qyI {t:TypeId} (h:qwa P t=true):∃kt et i,P.underlying t=some (.map kt et)∧P.underlying kt=some (.int .i64)∧P.info? et=some i∧i.zero=some (.int .i64 0):=by
 unfold qwa at h
 split at h
 ·rename_i kt et hu
  simp only[Bool.and_eq_true] at h
  obtain⟨h1,h2⟩:=h
  split at h1
  ·rename_i hk
   split at h2
   ·rename_i z hz
    obtain⟨i,hi,hz'⟩:=Option.bind_eq_some_iff.1 hz
    exact⟨kt,et,i,hu,hk,hi,by rw[hz'];simp at h2;rw[h2]⟩
   ·cases h2
  ·cases h1
 ·cases h
theorem quk (k v:Int):∀(es:List MapEntry) (l:List (Int×Int)) (i:Nat),es.map (fun e=>(e.key,e.val))=l.map (fun p=>(Value.int .i64 p.1,Value.int .i64 p.2)) →
  (Instr.findNow (.int .i64) (.int .i64 k) es i=some none∧qk8 l k=none∧qna l k v=l++[(k,v)]) ∨
   ∃j u e0,Instr.findNow (.int .i64) (.int .i64 k) es i=some (some (i+j,.int .i64 u))∧qk8 l k=some u∧es[j]?=some e0∧e0.key=.int .i64 k ∧
    ∀f:MapEntry→MapEntry,(f e0).key=.int .i64 k→(f e0).val=.int .i64 v→(es.modify j f).map (fun e=>(e.key,e.val))=(qna l k v).map (fun p=>(Value.int .i64 p.1,Value.int .i64 p.2))
 |[],[],i,_=>.inl ⟨rfl,rfl,rfl⟩
 |[],_::_,_,h=>by cases h
 |_::_,[],_,h=>by cases h
 |e::es,(j0,u0)::l,i,h=>by
  simp only[List.map_cons,List.cons.injEq,Prod.mk.injEq] at h
  obtain⟨⟨hk,hv⟩,ht⟩:=h
  by_cases hkj:k=j0
  ·subst hkj
   refine .inr ⟨0,u0,e,?_,by simp[qk8],rfl,hk,fun f h1 h2=>?_⟩
   ·simp[Instr.findNow,Instr.sameNow,hk,hv]
   ·simp[qna,h1,h2,ht]
  ·have hb:(k==j0)=false:=beq_eq_false_iff_ne.2 hkj
   rcases quk k v es l (i+1) ht with⟨h1,h2,h3⟩ |⟨j,u,e0,h1,h2,h3,h4,h5⟩
   ·refine .inl ⟨by simp[Instr.findNow,Instr.sameNow,hk,hb,h1],by simp[qk8,hb,h2],by simp[qna,hb,h3]⟩
   ·refine .inr ⟨j+1,u,e0,by simp[Instr.findNow,Instr.sameNow,hk,hb,h1];omega,by simp[qk8,hb,h2],by simpa using h3,h4,fun f f1 f2=>?_⟩
    have:=h5 f f1 f2
    simp[qna,hb,hk,hv,this]
theorem run_findKey {kt:TypeId} (hk:P.underlying kt=some (.int .i64)) {k:Int} {es:List MapEntry} {r:Option (Nat×Value)} (h:Instr.findNow (.int .i64) (.int .i64 k) es 0=some r):(Instr.findKey kt (.int .i64 k) es).run P w=.ok r w:=by
 simp only[Instr.findKey,Sem.run_bind,run_underlying hk,Result.andThen_ok,h]
 rfl
theorem run_checkKey {kt:TypeId} (hk:P.underlying kt=some (.int .i64)) {k:Int} (b:Bool) (m:Nat):(Instr.checkKey b (m+1) kt (.int .i64 k)).run P w=.ok () w:=by
 unfold Instr.checkKey
 simp only[Sem.run_bind,run_underlying hk,Result.andThen_ok]
 rfl
theorem qxK {t:TypeId} (ht:qwa P t=true) {b c:Nat} {es:Array MapEntry} {l:List (Int×Int)} (hb:w.heap[b]?=some (.map es c)) (hm:qvQ l es) (k:Int) (ok:Bool) :
  (Instr.lookup t (.map (some b)) (.int .i64 k) ok).run P w=.ok (if ok then .tuple #[.int .i64 ((qk8 l k).getD 0),.bool (qk8 l k).isSome] else .int .i64 ((qk8 l k).getD 0)) w:=by
 obtain⟨kt,et,i,hu,hk,hi,hz⟩:=qyI ht
 have hg:(getObj b).run P w=.ok (.map es c) w:=by simp[getObj,Sem.run,hb]
 simp only[Instr.lookup,Sem.run_bind,run_underlying hu,Result.andThen_ok,hg,Sem.run_pure,run_checkKey hk]
 rcases quk k 0 es.toList l 0 hm with⟨h1,h2,_⟩ |⟨j,u,e0,h1,h2,_⟩
 ·rw[run_findKey hk h1]
  simp[zeroValue,typeInfo,hi,hz,h2]
 ·rw[run_findKey hk h1]
  simp[h2]
theorem qA1 {t:TypeId} (ht:qwa P t=true) {b c:Nat} {es:Array MapEntry} {l:List (Int×Int)} (hb:w.heap[b]?=some (.map es c)) (hm:qvQ l es) (k v:Int) :
  ∃es' c',(Instr.mapUpdate t (.map (some b)) (.int .i64 k) (.int .i64 v)).run P w=.ok () (qtN w b (.map es' c'))∧qvQ (qna l k v) es':=by
 obtain⟨kt,et,i,hu,hk,hi,hz⟩:=qyI ht
 have hg:(getObj b).run P w=.ok (.map es c) w:=by simp[getObj,Sem.run,hb]
 have hs:∀o,(setObj b o).run P w=.ok () (qtN w b o):=fun o=>by simp[setObj,Sem.run,hb,qtN]
 rcases quk k v es.toList l 0 hm with⟨h1,_,h3⟩ |⟨j,u,e0,h1,_,h3,h4,h5⟩
 ·refine⟨es.push ⟨.int .i64 k,.int .i64 v,c⟩,c+1,?_,?_⟩
  ·simp only[Instr.mapUpdate,Sem.run_bind,run_underlying hu,Result.andThen_ok,hg,run_checkKey hk,run_findKey hk h1,hs]
  ·unfold qvQ at hm ⊢
   rw[h3,Array.toList_push,List.map_append,List.map_append,hm]
   rfl
 ·refine⟨es.modify j fun e=>{e with key:=.int .i64 k,val:=.int .i64 v},c,?_,?_⟩
  ·have he:es[j]?=some e0:=by simpa using h3
   have hst:Instr.sameBits 10000 (.int .i64 k) (.int .i64 k)=true:=by unfold Instr.sameBits;simp
   simp only[Instr.mapUpdate,Sem.run_bind,run_underlying hu,Result.andThen_ok,hg,run_checkKey hk,run_findKey hk h1,Nat.zero_add,he,Option.map_some,Option.getD_some,h4,Instr.keyThatStays,hst,if_true,Sem.run_pure,hs]
  ·unfold qvQ
   rw[Array.toList_modify]
   exact h5 _ rfl rfl
end
end Go.Av
end
