/- Texts of the proof, one behind the other. -/
import Derived.Test.YtealbjacocgjcaaGreatWipeFaultK32
import Derived.WalkKit
import Derived.Defers
import Derived.Recover
import Derived.Test.YtealbjacocgjcaaGreatWipeFaultK22
import Derived.Test.YtealbjacocgjcaaGreatProg
import Derived.WalkSpells
import Derived.WalkLawsBesides
import Derived.Lib.Builder
import Derived.Lib.Walk
import Derived.Lib.AppendStr
import Derived.Lib.UnsafeStr
import Derived.Laws.Externs
import Derived.BigRegion
import Derived.Test.YtealbjacocgjcaaGreatWipeFaultK29
import Derived.Test.YtealbjacocgjcaaGreatWipeFaultK21
import Derived.Deep.QuietTactic
import Derived.BigQuiet
import Derived.Test.YtealbjacocgjcaaGreatWipeFaultK25
import Derived.Test.YtealbjacocgjcaaGreatWipeFaultK26
import Derived.Test.YtealbjacocgjcaaGreatWipeFaultK27
import Derived.Test.YtealbjacocgjcaaGreatWipeFaultK30
import Derived.Test.YtealbjacocgjcaaGreatWipeFaultK31
section
namespace Go.Av
open Go
def sucIn (E:Env) (f:Nat→Bool) (j:Nat):Bool:=match E.P[j]? with
 |none=>f E.h
 |some (.op i)=>bif i.1==2 then true else f (j+1)&&(bif i.1==19||i.1==20 then f E.h else true)
 |some (.br o _ t)=>f t&&(bif o==24 then true else f (j+1))
def noStr (E:Env) (j:Nat):Bool:=match E.P[j]? with
 |some (.op i)=>!(i.1==20)
 |_=>true
theorem suc_ok {E:Env} {f:Nat→Bool} {j:Nat} (h:sucIn E f j=true) (s:IS) (hd:(stepI E false j s).1=false):f (stepI E false j s).2.1=true:=by
 unfold sucIn at h
 unfold stepI at hd ⊢
 cases hp:E.P[j]? with
 |none=>rw[hp] at h;exact h
 |some p =>
  rw[hp] at h hd
  cases p with
  |op i =>
   have hd:(doI E j i s).1=false:=hd
   show f (doI E j i s).2.1=true
   dsimp only at h
   unfold doI at hd ⊢
   cases e2:(i.1==(2:Int))
   ·rw[e2] at h
    simp only[cond_false,Bool.and_eq_true] at h
    obtain⟨h1,h3⟩:=h
    cases e19:(i.1==(19:Int))
    ·rw[e19] at h3
     cases e20:(i.1==(20:Int))
     ·cases (i.1==(23:Int))<;>exact h1
     ·rw[e20] at h3
      cases E.okW (s.1 i.2.2.1)
      ·exact h3
      ·exact h1
    ·rw[e19] at h3
     cases E.okR (s.1 i.2.2.1)
     ·exact h3
     ·exact h1
   ·rw[e2] at hd
    cases hd
  |br o c t =>
   simp only[Bool.and_eq_true] at h
   show f (bif goesF s.2.1 o c then(false,t,s) else(false,j+1,s)).2.1=true
   cases hg:goesF s.2.1 o c
   ·have ho:(o==(24:Int))=false:=by
     cases ho:(o==(24:Int))
     ·rfl
     ·unfold goesF at hg
      rw[ho] at hg
      cases hg
    rw[ho] at h
    exact h.2
   ·exact h.1
theorem step_mem {E:Env} {j:Nat} (h:noStr E j=true) (sk:Bool) (s:IS):(stepI E sk j s).2.2.2.2=s.2.2:=by
 unfold noStr at h
 unfold stepI
 cases hp:E.P[j]? with
 |none=>rfl
 |some p =>
  rw[hp] at h
  cases sk
  ·show(atI E j s p).2.2.2.2=_
   cases p with
   |op i =>
    have h:(i.1==(20:Int))=false:=by simpa using h
    show(doI E j i s).2.2.2.2=_
    unfold doI
    rw[h]
    cases (i.1==(2:Int))
    ·cases (i.1==(19:Int))
     ·cases (i.1==(23:Int))<;>rfl
     ·cases E.okR (s.1 i.2.2.1)<;>rfl
    ·rfl
   |br o c t =>
    show(bif goesF s.2.1 o c then(false,t,s) else(false,j+1,s)).2.2.2.2=_
    cases goesF s.2.1 o c<;>rfl
  ·rfl
theorem go_split {E:Env} {k c j j':Nat} {s s':IS} (h:GoTo E (k+1) c j s j' s'):∃j1 s1 c1,stepI E false j s=(false,j1,s1)∧GoTo E k c1 j1 s1 j' s'∧c=(bif j==E.h then 1 else 0)+c1:=by
 unfold GoTo at h
 rw[goN] at h
 simp only[cond_false,Prod.mk.injEq] at h
 obtain⟨h1,h2,h3⟩:=h
 generalize hq:stepI E false j s=q at *
 obtain⟨b,j1,s1⟩:=q
 cases b with
 |true =>
  rw[goN_done E k rfl] at h3
  have:=congrArg (fun x=>x.1) h3
  cases this
 |false =>
  refine⟨j1,s1,(goN E k (false,j1,s1)).2.1,rfl,?_,h2.symm⟩
  unfold GoTo
  have e1:(goN E k (false,j1,s1)).1=k:=by omega
  rw[←h3]
  exact Prod.ext e1 rfl
theorem closed_go {E:Env} {Q:Nat→Bool} (hQ:∀j,Q j=true→sucIn E (fun x=>Q x||x==E.h) j=true):∀(k:Nat) (j:Nat) (s:IS) (j':Nat) (s':IS),Q j=true→GoTo E k 0 j s j' s'→Q j'=true∨j'=E.h
 |0,j,s,j',s',hj,h=>by
  have h:((0,0,false,j,s):Nat×Nat×IO3)=(0,0,false,j',s'):=h
  injection h with _ h
  injection h with _ h
  injection h with _ h
  injection h with h _
  rw[←h]
  exact .inl hj
 |k+1,j,s,j',s',hj,h=>by
  obtain⟨j1,s1,c1,e1,g1,ec⟩:=go_split h
  have c0:c1=0:=by omega
  subst c0
  have:=suc_ok (hQ j hj) s (by rw[e1])
  rw[e1] at this
  simp only[Bool.or_eq_true,beq_iff_eq] at this
  rcases this with h1 |h1
  ·exact closed_go hQ k j1 s1 j' s' h1 g1
  ·subst h1
   cases k with
   |zero =>
    have g1:((0,0,false,E.h,s1):Nat×Nat×IO3)=(0,0,false,j',s'):=g1
    injection g1 with _ g1
    injection g1 with _ g1
    injection g1 with _ g1
    injection g1 with g1 _
    exact .inr g1.symm
   |succ k =>
    obtain⟨_,_,c2,_,_,ec2⟩:=go_split g1
    rw[beq_self_eq_true] at ec2
    simp only[cond_true] at ec2
    omega
theorem stay {E:Env} {S R:Nat→Bool} {e:Nat} (hS:∀j,S j=true→sucIn E (fun x=>S x||(x==e||x==E.h)) j=true) (hR:∀j,R j=true→sucIn E (fun x=>R x||x==E.h) j=true) (hRe:R e=false) (he:sucIn E (fun x=>R x||x==E.h) e=true) (heh:e≠E.h) :
  ∀(k:Nat) (j:Nat) (s s':IS),S j=true→GoTo E k 0 j s e s'→∀t,t<k→∃jt st,GoTo E t 0 j s jt st∧S jt=true∧((∀x,S x=true→noStr E x=true)→st.2.2=s.2.2)
 |0,_,_,_,_,_,t,ht=>by cases ht
 |k+1,j,s,s',hj,h,t,ht=>by
  cases t with
  |zero=>exact⟨j,s,GoTo.refl E j s,hj,fun _=>rfl⟩
  |succ t =>
   obtain⟨j1,s1,c1,e1,g1,ec⟩:=go_split h
   have c0:c1=0:=by omega
   subst c0
   have hjh:(j==E.h)=false:=by
    cases hb:(j==E.h)
    ·rfl
    ·rw[hb] at ec;simp only[cond_true] at ec;omega
   have:=suc_ok (hS j hj) s (by rw[e1])
   rw[e1] at this
   simp only[Bool.or_eq_true,beq_iff_eq] at this
   rcases this with h1 |h1 |h1
   ·obtain⟨jt,st,g,hst,hmem⟩:=stay hS hR hRe he heh k j1 s1 s' h1 g1 t (by omega)
    refine⟨jt,st,go_cons e1 (by simpa using hjh) g,hst,fun hx=>?_⟩
    rw[hmem hx]
    have:=step_mem (hx j hj) false s
    rw[e1] at this
    exact this
   ·subst h1
    exfalso
    cases k with
    |zero=>omega
    |succ k =>
     obtain⟨j2,s2,c2,e2,g2,ec2⟩:=go_split g1
     have c0:c2=0:=by omega
     subst c0
     have:=suc_ok he s1 (by rw[e2])
     rw[e2] at this
     simp only[Bool.or_eq_true,beq_iff_eq] at this
     rcases this with h2 |h2
     ·rcases closed_go hR k j2 s2 j1 s' h2 g2 with h3 |h3
      ·rw[hRe] at h3;cases h3
      ·exact heh h3
     ·subst h2
      cases k with
      |zero =>
       have g2:((0,0,false,E.h,s2):Nat×Nat×IO3)=(0,0,false,j1,s'):=g2
       injection g2 with _ g2
       injection g2 with _ g2
       injection g2 with _ g2
       injection g2 with g2 _
       exact heh g2.symm
      |succ k =>
       obtain⟨_,_,c3,_,_,ec3⟩:=go_split g2
       rw[beq_self_eq_true] at ec3
       simp only[cond_true] at ec3
       omega
   ·subst h1
    exfalso
    cases k with
    |zero =>
     have g1:((0,0,false,E.h,s1):Nat×Nat×IO3)=(0,0,false,e,s'):=g1
     injection g1 with _ g1
     injection g1 with _ g1
     injection g1 with _ g1
     injection g1 with g1 _
     exact heh g1.symm
    |succ k =>
     obtain⟨_,_,c3,_,_,ec3⟩:=go_split g1
     rw[beq_self_eq_true] at ec3
     simp only[cond_true] at ec3
     omega
def cfR (E:Env) (stop:Nat→Bool):Nat→Nat→Bool
 |0,j=>stop j
 |n+1,j=>stop j||(noStr E j&&(match E.P[j]? with
  |none=>cfR E stop n E.h
  |some (.op i)=>!(i.1==2)&&(cfR E stop n (j+1)&&(bif i.1==19||i.1==20 then cfR E stop n E.h else true))
  |some (.br o _ t)=>cfR E stop n t&&(bif o==24 then true else cfR E stop n (j+1))))
theorem cfR_ok {E:Env} {stop:Nat→Bool} (hh:stop E.h=true):∀(n j:Nat) (s:IS),cfR E stop n j=true→∃k j' s',k≤n∧GoTo E k 0 j s j' s'∧stop j'=true∧s'.2.2=s.2.2
 |0,j,s,h=>⟨0,j,s,Nat.le_refl _,GoTo.refl E j s,h,rfl⟩
 |n+1,j,s,h=>by
  cases hs:stop j with
  |true=>exact⟨0,j,s,Nat.zero_le _,GoTo.refl E j s,hs,rfl⟩
  |false =>
   have hj:j≠E.h:=fun e=>by rw[e,hh] at hs;cases hs
   simp only[cfR,hs,Bool.false_or,Bool.and_eq_true] at h
   obtain⟨hn,h⟩:=h
   have hd:(stepI E false j s).1=false:=by
    unfold stepI
    cases hp:E.P[j]? with
    |none=>rfl
    |some p =>
     rw[hp] at h
     cases p with
     |op i =>
      simp only[Bool.and_eq_true,Bool.not_eq_true'] at h
      show(doI E j i s).1=false
      unfold doI
      rw[h.1]
      cases (i.1==(19:Int))
      ·cases (i.1==(20:Int))
       ·cases (i.1==(23:Int))<;>rfl
       ·cases E.okW (s.1 i.2.2.1)<;>rfl
      ·cases E.okR (s.1 i.2.2.1)<;>rfl
     |br o c t =>
      show(bif goesF s.2.1 o c then(false,t,s) else(false,j+1,s)).1=false
      cases goesF s.2.1 o c<;>rfl
   have hsuc:sucIn E (fun x=>cfR E stop n x) j=true:=by
    unfold sucIn
    cases hp:E.P[j]? with
    |none=>rw[hp] at h;exact h
    |some p =>
     rw[hp] at h
     cases p with
     |op i =>
      simp only[Bool.and_eq_true,Bool.not_eq_true'] at h
      dsimp only
      rw[h.1,cond_false,h.2.1,h.2.2]
      rfl
     |br o c t =>
      simp only[Bool.and_eq_true] at h
      dsimp only
      rw[h.1,h.2]
      rfl
   have hc:=suc_ok hsuc s hd
   have hm:=step_mem hn false s
   generalize hq:stepI E false j s=q at *
   obtain⟨b,j1,s1⟩:=q
   dsimp only at hd hc hm
   subst hd
   obtain⟨k,j',s',h1,h2,h3,h4⟩:=cfR_ok hh n j1 s1 hc
   exact⟨k+1,j',s',by omega,go_cons hq hj h2,h3,by rw[h4,hm]⟩
end Go.Av
end
section
namespace Go.Proofs.YtealbjacocgjcaaGreat
open Go Go.Av Go.Proofs Go.RowKit
noncomputable def stepRest:Code:=match Tryz.f79.body with
 |some (.seq _ r)=>r
 |_=>.skip
theorem trapZero (w:World):(Instr.typeAssert .nilIface 20 148 true).run Tryz.prog w=.ok (.tuple #[.agg #[.int .i64 0],.bool false]) w:=by
 kernel_rfl
theorem trapSome (v:Value) (w:World):(Instr.typeAssert (.iface 148 v) 20 148 true).run Tryz.prog w=.ok (.tuple #[v,.bool true]) w:=by
 kernel_rfl
theorem step_enter (cap:Array Value) (w:World):(invoke (.fn (.func 79) cap) #[]).run Tryz.prog w=.ok (.enter 79 cap) w:=by
 have h1 : (Tryz.f79.name == "runtime.NumGoroutine") = false := by kernel_rfl
 have h2:Tryz.f79.body.isNone=false:=by kernel_rfl
 have h3:Tryz.prog.funcs[79]?=some Tryz.f79:=Tryz.func79
 simp only[invoke,callFunc]
 rw[show(#[]:Array Value)++cap=cap by simp]
 simp only[Sem.run_bind,run_program,Result.andThen_ok,h3,h1,h2,Bool.false_eq_true,if_false]
 rfl
set_option maxRecDepth 100000 in
set_option maxHeartbeats 2000000 in
theorem step_catches:Catches Tryz.prog 79 148 Tryz.f79 stepRest where
 enter:=step_enter
 idle:=fun p0 p1 p2 w=>by
  refine callsD_of_wpS (c:=.seq (.region _ _ false) stepRest) Tryz.func79 rfl fun c₀ cs hu=>?_
  simp only[Tryz.ntmps79,List.size_toArray,List.length_cons,List.length_nil,Nat.reduceAdd,Nat.reduceSub,Array.replicate_succ,Array.replicate_zero,List.push_toArray,List.append_toArray,List.nil_append,List.cons_append]
  apply wpS_seq
  apply wpS_region
  simp[wpOpsS,go_sem,recoverD,hu,Exit.thenS,trapZero]
  refine wpS_of_wp ?_
  refine Code.wp_mono (Q:=fun e a' w'=>e=.normal∧a'.defers=[]∧w'=w.alloc (.cells #[.int .i64 0] 148)) (fun e a' w' hq=>?_) ?_
  ·obtain⟨rfl,hd,rfl⟩:=hq
   exact⟨hd,.returning,by rw[←hu],_,results_none rfl _ _ _,⟨_,rfl⟩,rfl,rfl⟩
  ·show Code.wp _ (.seq (.region _ _ false) (.cond (.tmp 10) _ .skip)) _ _ _
   refine wp_seq (wp_region ?_)
   simp[wpOps,go_sem,Exit.then]
   refine .inl (wp_cond (t:=false) ?_ ?_)
   ·simp[Act.eval]
   simp only[Bool.false_eq_true,if_false]
   exact wp_skip ⟨rfl,rfl,rfl⟩
 caught:=fun p0 p1 p2 m w Rr h=>by
  refine callsD_of_wpS (c:=.seq (.region _ _ false) stepRest) Tryz.func79 rfl fun c₀ cs hu=>?_
  simp only[Tryz.ntmps79,List.size_toArray,List.length_cons,List.length_nil,Nat.reduceAdd,Nat.reduceSub,Array.replicate_succ,Array.replicate_zero,List.push_toArray,List.append_toArray,List.nil_append,List.cons_append]
  apply wpS_seq
  apply wpS_region
  simp[wpOpsS,go_sem,recoverD,hu,Exit.thenS,trapSome]
  refine wpS_of_wp (Code.wp_mono (fun e a' w' hq=>?_) (h _ rfl rfl rfl rfl rfl rfl))
  obtain⟨he,hd,hr⟩:=hq
  rcases he with rfl |rfl
  ·exact⟨hd,_,rfl,_,results_none rfl _ _ _,⟨_,rfl⟩,rfl,hr⟩
  ·exact⟨hd,_,rfl,_,results_none rfl _ _ _,⟨_,rfl⟩,rfl,hr⟩
theorem step_ok {C:Ctx} (hC:Av.Good C) (hP:C.P=Tryz.prog) (unroll d:Nat):BodyOk C.P 42 (evStep C drawOk unroll d 42 79 148) :=
 evStep_ok hC (gn:=Tryz.f79) (rest:=stepRest) (by rw[hP];exact Tryz.func79) rfl (by rw[hP];exact step_catches)
end Go.Proofs.YtealbjacocgjcaaGreat
end
section
namespace Go.Proofs.YtealbjacocgjcaaGreat
open Go Go.RowKit Go.Av Go.Proofs
section
variable {P:Program} (w:World)
theorem run_app_new (t u ty e:TypeId) (i:TypeInfo) (ht:P.underlying t=some (.slice e)) (hu:P.underlying u=some .string) (hi:P.info? e=some i) (hz:i.zero=some (.int .u8 0))
  (hsize:i.size=1) (hby:i.bytes=1) (v:Value) (n:Nat) (xs:List Value) (hown:w.ownsRow 0 e 1 v n xs) (s:ByteArray) (hlen:n+s.size≤140737488355328) :
  ∃v' w',(Builtin.append_ #[t,u] ty #[v,.string s]).run P w=.ok v' w'∧w'.ownsRow 0 e 1 v' (n+s.size) (xs++Lib.strCells s)∧w.grownBy w' v.ownBlock∧(v'.ownBlock=v.ownBlock∨∀k,v'.ownBlock=some k→w.heap.size≤k):=by
 have h63:n+s.size≤maxLen:=by unfold maxLen;omega
 obtain⟨v',w',hr,ho,hg,_⟩:=Lib.run_append_own_string (P:=P) w 0 t u ty e i ht hu hi hz hsize hby v n xs hown s h63 hlen (Nat.zero_le _)
 refine⟨v',w',hr,ho,hg,?_⟩
 have hxl:xs.length=n:=by simpa using hown.1
 rcases hown.2 with⟨rfl,rfl⟩ |⟨g,cap,cur,rfl,hbg,hgg,hnc,hcm,hcs,htake⟩
 ·obtain⟨v2,w2,hr2,ho2,_,_⟩:=Lib.run_append_own_string (P:=P) w w.heap.size t u ty e i ht hu hi hz hsize hby (.slice none 0 0) 0 xs ⟨hown.1,.inl ⟨rfl,rfl⟩⟩ s h63 hlen (Nat.le_refl _)
  rw[hr] at hr2
  cases hr2
  exact .inr fun k hk=>(ho2.lt k hk).1
 ·have hcs':cur.size=cap:=by simpa using hcs
  by_cases hroom:n+s.size≤cap
  ·have hr2:=Lib.run_append_room_string (P:=P) w t u ty e i ht hu hi hsize g n cap cur hgg s hroom (by omega)
   rw[hr] at hr2
   cases hr2
   exact .inl rfl
  ·have holds:∀j u,xs[j]?=some u→w.cell? ((⟨g,0,none⟩:Addr).add j)=some u:=hown.cells (g:=g) rfl
   have hr2:=Lib.run_append_grow_string (P:=P) w t u ty e i (.int .u8 0) ht hu hi hz ⟨g,0,none⟩ n cap xs (by rw[hsize];simpa using hxl) holds s (by omega) (by omega) (by rw[hby];exact growslice_fits (by omega) (by omega))
   rw[hr] at hr2
   cases hr2
   exact .inr fun k hk=>by simp only[Value.ownBlock,Option.some.injEq] at hk;omega
theorem wpList_app_new {w:World} {ops:Array Oper} {rest:List Oper} {o:Oper} {a:Act} {Q:Exit→Act→World→Prop} (hgd:o.guard=none) (sl x:Operand) (t u:TypeId)
  (ho:o.op=.call {callee:=.builtin .append,args:=#[sl,x],argTypes:=#[t,u]})
  (e:TypeId) (i:TypeInfo) (ht:P.underlying t=some (.slice e)) (hu:P.underlying u=some .string) (hi:P.info? e=some i) (hz:i.zero=some (.int .u8 0))
  (hsize:i.size=1) (hby:i.bytes=1)
  (v:Value) (n:Nat) (xs:List Value) (hs:a.eval sl=v) (hown:w.ownsRow 0 e 1 v n xs) (s:ByteArray) (hx:a.eval x=.string s) (hlen:n+s.size≤140737488355328)
  (h:∀v' w',w'.ownsRow 0 e 1 v' (n+s.size) (xs++Lib.strCells s)→w.grownBy w' v.ownBlock→(v'.ownBlock=v.ownBlock∨∀k,v'.ownBlock=some k→w.heap.size≤k)→wpList P ops Q rest (a.put o.dst v') w'):wpList P ops Q (o::rest) a w:=by
 refine wpList_plain hgd fun K hK=>?_
 obtain⟨v',w',hr,h2,h3,h4⟩:=run_app_new (P:=P) w t u o.type e i ht hu hi hz hsize hby v n xs hown s hlen
 unfold Oper.wp execOp
 simp only[ho,resolve,invoke,builtin,Sem.run_bind,Sem.run_pure,Result.andThen_ok,List.map_toArray,List.map_cons,List.map_nil,hs,hx,hr]
 exact hK _ _ (h v' w' h2 h3 h4)
end
set_option maxRecDepth 100000 in
set_option maxHeartbeats 4000000 in
theorem copy_used (b:Nat) (w:World) (h0:w.cell? ⟨b,0,none⟩=some (.pointer (some ⟨b,0,none⟩))) :
  Calls Tryz.prog 108 #[.pointer (some ⟨b,0,none⟩)] w fun e w'=>e=.returned (.tuple #[])∧w'=w:=by
 have hq:(binOp .neq 125 (.pointer (some ⟨b,0,none⟩)) (.pointer (some ⟨b,0,none⟩))).run Tryz.prog w=.ok (.bool false) w:=by
  obtain⟨j,hj,_⟩:=Option.map_eq_some_iff.1 (show(Tryz.prog.info? 127).map (fun i=>i.size)=some 2 by kernel_rfl)
  exact Lib.run_neq_ptr_same w ⟨b,0,none⟩ (show Tryz.prog.underlying 125=some (.pointer 127) by kernel_rfl) hj
 go_enter Tryz.func108,Tryz.ntmps108
 go_wp2
 go_end0
 exact⟨rfl,rfl⟩
set_option maxRecDepth 100000 in
set_option maxHeartbeats 4000000 in
theorem copy_fresh (b:Nat) (w:World) (h0:w.cell? ⟨b,0,none⟩=some (.pointer none)) (hsh:w.shape? b=some (127,2)) (hfz:w.frozen? ⟨b,0,none⟩=false) :
  Calls Tryz.prog 108 #[.pointer (some ⟨b,0,none⟩)] w fun e w'=>e=.returned (.tuple #[])∧w'=w.setCell ⟨b,0,none⟩ (.pointer (some ⟨b,0,none⟩)):=by
 obtain⟨j,hj,hjs⟩:=Option.map_eq_some_iff.1 (show(Tryz.prog.info? 127).map (fun i=>i.size)=some 2 by kernel_rfl)
 have hu1:(convert 125 213 (.pointer (some ⟨b,0,none⟩))).run Tryz.prog w=.ok (.pointer (some ⟨b,0,none⟩)) w :=
  Lib.run_to_unsafe w ⟨b,0,none⟩ (show Tryz.prog.underlying 125=some (.pointer 127) by kernel_rfl) (show Tryz.prog.underlying 213=some .unsafePointer by kernel_rfl) hj (by rw[hjs];decide) hsh (Nat.zero_lt_succ 1)
 go_enter Tryz.func108,Tryz.ntmps108
 go_wp2
 rw[run_callFunc_extern Tryz.func132 (by kernel_rfl) (by kernel_rfl) (by kernel_rfl) (e:=Extern.AbiNoEscape.same) (by kernel_rfl)]
 rw[Lib.run_noEscape]
 simp only[Result.andThen]
 rw[Oper.upon_value]
 go_wp2
 rw[Lib.run_from_unsafe w ⟨b,0,none⟩ (show Tryz.prog.underlying 213=some .unsafePointer by kernel_rfl) (show Tryz.prog.underlying 125=some (.pointer 127) by kernel_rfl) hj hsh (by kernel_rfl)]
 simp only[Result.andThen]
 rw[Oper.upon_value]
 go_wp2
 go_end0
 exact⟨rfl,rfl⟩
theorem setCell_heap {w:World} {b:Nat} {c:Array Value} {T:TypeId} (h:w.heap[b]?=some (.cells c T (0,0))) (o:Nat) (v:Value):(w.setCell ⟨b,o,none⟩ v).heap[b]?=some (.cells (c.setIfInBounds o v) T (0,0)):=by
 simp[World.setCell,Array.getElem?_modify,h]
theorem setCell_other (w:World) {b x:Nat} (hx:x≠b) (o:Nat) (v:Value):(w.setCell ⟨b,o,none⟩ v).heap[x]?=w.heap[x]?:=by
 simp[World.setCell,Array.getElem?_modify,Ne.symm hx]
theorem setCell_size (w:World) (a:Addr) (v:Value):(w.setCell a v).heap.size=w.heap.size:=by
 simp[World.setCell]
theorem copy_any (b:Nat) (p v:Value) (w:World) (hb:w.heap[b]?=some (.cells #[p,v] 127 (0,0))) (hp:p=.pointer none∨p=.pointer (some ⟨b,0,none⟩)) :
  Calls Tryz.prog 108 #[.pointer (some ⟨b,0,none⟩)] w fun e w'=>e=.returned (.tuple #[])∧w'.heap[b]?=some (.cells #[.pointer (some ⟨b,0,none⟩),v] 127 (0,0)) ∧
   (∀x,x≠b→w'.heap[x]?=w.heap[x]?)∧w'.heap.size=w.heap.size∧w'.os=w.os∧w'.tape=w.tape∧w'.output=w.output:=by
 rcases hp with rfl |rfl
 ·refine(copy_fresh b w (by simp[World.cell?,hb]) (by simp[World.shape?,hb]) (by simp[World.frozen?,hb])).mono ?_
  rintro e w' ⟨rfl,rfl⟩
  refine⟨rfl,?_,fun x hx=>setCell_other w hx _ _,setCell_size _ _ _,rfl,rfl,rfl⟩
  rw[setCell_heap hb]
  rfl
 ·refine(copy_used b w (by simp[World.cell?,hb])).mono ?_
  rintro e w' ⟨rfl,rfl⟩
  exact⟨rfl,hb,fun _ _=>rfl,rfl,rfl,rfl,rfl⟩
set_option maxRecDepth 100000 in
set_option maxHeartbeats 4000000 in
theorem write_run (b:Nat) (p v:Value) (xs:List Value) (s:ByteArray) (w:World) (hb:w.heap[b]?=some (.cells #[p,v] 127 (0,0))) (hp:p=.pointer none∨p=.pointer (some ⟨b,0,none⟩))
  (hown:w.ownsRow 0 5 1 v xs.length xs) (hne:v.ownBlock≠some b) (hlen:xs.length+s.size≤140737488355328) :
  Calls Tryz.prog 70 #[.pointer (some ⟨b,0,none⟩),.string s] w fun e w'=>(∃r,e=.returned r)∧∃(v':Value) (w1 w2:World),w'.heap[b]?=some (.cells #[.pointer (some ⟨b,0,none⟩),v'] 127 (0,0)) ∧
   w2.ownsRow 0 5 1 v' (xs.length+s.size) (xs++Lib.strCells s)∧(∀x,x≠b→w'.heap[x]?=w2.heap[x]?)∧w'.heap.size=w2.heap.size∧w'.os=w2.os∧w'.tape=w2.tape∧w'.output=w2.output ∧
   w1.grownBy w2 v.ownBlock∧(∀x,x≠b→w1.heap[x]?=w.heap[x]?)∧w1.heap.size=w.heap.size∧w1.os=w.os∧w1.tape=w.tape∧w1.output=w.output∧(v'.ownBlock=v.ownBlock∨∀k,v'.ownBlock=some k→w.heap.size≤k):=by
 obtain⟨i0,hi,hz0,hz1,hz2⟩:=info_parts (show(Tryz.prog.info? 5).map (fun i=>(i.zero,i.size,i.bytes))=some (some (.int .u8 0),1,1) by kernel_rfl)
 go_enter Tryz.func70,Tryz.ntmps70
 go_wp2_with (go_at_call 108;refine(copy_any b p v _ hb hp).mono ?_)
 rintro e w1 ⟨rfl,hbk,hoth,hsz,hos,htp,hout⟩
 have hown1:w1.ownsRow 0 5 1 v xs.length xs:=by
  refine⟨hown.1,?_⟩
  rcases hown.2 with h |⟨g,cap,cur,hv,hg,hc,r⟩
  ·exact .inl h
  ·exact .inr ⟨g,cap,cur,hv,hg,(hoth g (fun e=>hne (by rw[hv,e];rfl))).trans hc,r⟩
 have hlt:b<w1.heap.size:=by
  rcases Nat.lt_or_ge b w1.heap.size with h' |h'
  ·exact h'
  ·simp[Array.getElem?_eq_none h'] at hbk
 have c0:w1.cell? ⟨b,0,none⟩=some (.pointer (some ⟨b,0,none⟩)):=by rw[Lib.cell_of_heap hbk];rfl
 have c1:w1.cell? ⟨b,1,none⟩=some v:=by rw[Lib.cell_of_heap hbk];rfl
 go_wp2_with (at_builtin;refine wpList_app_new rfl _ _ 112 9 rfl 5 i0 (show Tryz.prog.underlying 112=some (.slice 5) by kernel_rfl) (show Tryz.prog.underlying 9=some .string by kernel_rfl) hi hz0 hz1 hz2 _ _ _ rfl hown1 s rfl hlen ?_)
 intro v' w2 hown' hgrow hnew
 have hb2:w2.heap[b]?=some (.cells #[.pointer (some ⟨b,0,none⟩),v] 127 (0,0)):=by
  rw[hgrow.block b hlt (fun e=>hne e.symm)]
  exact hbk
 have d0:w2.cell? ⟨b,0,none⟩=some (.pointer (some ⟨b,0,none⟩)):=by rw[Lib.cell_of_heap hb2];rfl
 have d1:w2.cell? ⟨b,1,none⟩=some v:=by rw[Lib.cell_of_heap hb2];rfl
 have f1:w2.frozen? ⟨b,1,none⟩=false:=Lib.frozen_of_heap hb2 1
 obtain⟨ao,n',cap,rfl⟩:∃ao n' cap,v'=.slice ao n' cap:=by
  rcases hown'.2 with⟨hv,_⟩ |⟨g,cap,cur,hv,_⟩
  ·exact⟨_,_,_,hv⟩
  ·exact⟨_,_,_,hv⟩
 go_wp2
 go_ret2
 refine⟨⟨_,rfl⟩,.slice ao n' cap,w1,w2,?_,hown',fun x hx=>setCell_other w2 hx _ _,setCell_size _ _ _,rfl,rfl,rfl,hgrow,hoth,hsz,hos,htp,hout,hnew⟩
 rw[setCell_heap hb2]
 rfl
theorem grown_drew (w:World) (row:Option Nat):w.grownBy w.drew row:=⟨rfl,rfl,rfl,Nat.le_refl _,fun _ _ _=>rfl⟩
theorem grown_freeze {w a:World} {g:Nat} (h:a.grownBy w (some g)) (n:Nat):a.grownBy (w.freeze ⟨g,0,none⟩ n) (some g):=by
 unfold World.freeze
 split
 ·exact h
 ·refine⟨h.os,h.tape,h.output,by simpa using h.size,fun k hk hne=>?_⟩
  simp only[Array.getElem?_modify]
  rw[if_neg (fun e=>hne (by rw[←e]))]
  exact h.block k hk hne
set_option maxRecDepth 100000 in
set_option maxHeartbeats 4000000 in
theorem string_run (b:Nat) (p v:Value) (l:List UInt8) (w:World) (hb:w.heap[b]?=some (.cells #[p,v] 127 (0,0)))
  (hown:w.ownsRow 0 5 1 v l.length (l.map fun x=>Value.int .u8 x.toNat)) :
  Calls Tryz.prog 71 #[.pointer (some ⟨b,0,none⟩)] w fun e w'=>e=.returned (.string ⟨l.toArray⟩)∧w.grownBy w' v.ownBlock:=by
 have hUS0:∀(W:World) q,(Builtin.unsafeString_ #[176,3] 9 #[.pointer q,.int .i64 0]).run Tryz.prog W=.ok (.string .empty) W:=fun W q=>Lib.run_unsafeString_none W _ _ _ q
 have c1:w.drew.cell? ⟨b,1,none⟩=some v:=by
  have:w.drew.heap[b]?=some (.cells #[p,v] 127 (0,0)):=hb
  rw[Lib.cell_of_heap this];rfl
 rcases hown.2 with⟨rfl,hz⟩ |⟨g,cap,cur,rfl,hbg,hg,hnc,hcm,hcs,htake⟩
 ·have:l=[]:=List.eq_nil_of_length_eq_zero hz
  subst this
  have hSD:(Builtin.unsafeSliceData_ #[112] 176 #[.slice none 0 0]).run Tryz.prog w.drew=.ok (.pointer none) w.drew:=rfl
  go_enter Tryz.func71,Tryz.ntmps71
  go_wp2
  go_region
  all_goals (go_wp2;go_ret;exact⟨rfl,grown_drew w _⟩)
 ·have hbw:w.drew.heap[b]?=some (.cells #[p,.slice (some ⟨g,0,none⟩) l.length cap] 127 (0,0)):=hb
  by_cases h0:l=[]
  ·subst h0
   by_cases hc:cap=0
   ·subst hc
    have hlt:b<w.heap.size:=by
     rcases Nat.lt_or_ge b w.heap.size with h' |h'
     ·exact h'
     ·simp[Array.getElem?_eq_none h'] at hb
    have hg':w.drew.heap[g]?=some (.cells cur 5 (0,0)):=hg
    have hSD:(Builtin.unsafeSliceData_ #[112] 176 #[.slice (some ⟨g,0,none⟩) 0 0]).run Tryz.prog w.drew=.ok (.pointer (some ⟨w.drew.heap.size,0,none⟩)) (w.drew.alloc (.view ⟨g,0,none⟩ 5)) :=
     Lib.run_unsafeSliceData_zero w.drew _ _ 5 (show Tryz.prog.underlying 176=some (.pointer 5) by kernel_rfl) ⟨g,0,none⟩ 0 (5,cur.size) (by simp[World.shape?,hg'])
    have c2:(w.drew.alloc (.view ⟨g,0,none⟩ 5)).cell? ⟨b,1,none⟩=some (.slice (some ⟨g,0,none⟩) 0 0):=by
     have:(w.drew.alloc (.view ⟨g,0,none⟩ 5)).heap[b]?=_:=(Lib.alloc_old w.drew _ b hlt).trans hbw
     rw[Lib.cell_of_heap this];rfl
    have c3:(w.alloc (.view ⟨g,0,none⟩ 5)).drew.cell? ⟨b,1,none⟩=some (.slice (some ⟨g,0,none⟩) 0 0):=c2
    have c0:w.cell? ⟨b,1,none⟩=some (.slice (some ⟨g,0,none⟩) 0 0):=c1
    go_enter Tryz.func71,Tryz.ntmps71
    go_wp2
    go_region
    all_goals (go_wp2;go_ret;exact⟨rfl,rfl,rfl,rfl,(World.grownBy_alloc w.drew _ none).size,fun k hk _=>(World.grownBy_alloc w.drew _ none).block k hk (by simp)⟩)
   ·have hSD:(Builtin.unsafeSliceData_ #[112] 176 #[.slice (some ⟨g,0,none⟩) 0 cap]).run Tryz.prog w.drew=.ok (.pointer (some ⟨g,0,none⟩)) w.drew :=
     Lib.run_unsafeSliceData_row _ _ _ _ _ _ hc
    clear hc
    go_enter Tryz.func71,Tryz.ntmps71
    go_wp2
    go_region
    all_goals (go_wp2;go_ret;exact⟨rfl,grown_drew w _⟩)
  ·have hl0:l.length≠0:=by simpa using h0
   have hSD:(Builtin.unsafeSliceData_ #[112] 176 #[.slice (some ⟨g,0,none⟩) l.length cap]).run Tryz.prog w.drew=.ok (.pointer (some ⟨g,0,none⟩)) w.drew :=
    Lib.run_unsafeSliceData_row _ _ _ _ _ _ (by omega)
   have hUS:(Builtin.unsafeString_ #[176,3] 9 #[.pointer (some ⟨g,0,none⟩),.int .i64 l.length]).run Tryz.prog w.drew=.ok (.string ⟨l.toArray⟩) (w.drew.freeze ⟨g,0,none⟩ l.length):=by
    refine Lib.run_unsafeString_row w.drew 176 3 9 5 (show Tryz.prog.underlying 176=some (.pointer 5) by kernel_rfl) (show Tryz.prog.cellsOf 5=1 by kernel_rfl) g cur.size (by have hg':w.drew.heap[g]?=some (.cells cur 5 (0,0)):=hg;simp[World.shape?,hg']) l h0 (by omega) (by unfold maxLen at hcm;omega) ?_
    intro j x hx
    have:=hown.cells (g:=g) rfl j (.int .u8 x.toNat) (by simp[hx])
    exact this
   clear hUS0
   go_enter Tryz.func71,Tryz.ntmps71
   go_wp2
   go_region
   all_goals (go_wp2;go_ret;exact⟨rfl,grown_freeze (grown_drew w _) _⟩)
theorem bld_box {w:World} {K:Kinds} {y:shBld.den} (hh:HeapOk w K (enum 0 (savs [shBld] y))) {b:Nat} (hb:b<w.heap.size) (hk:K b=.box 0) :
  ∃p v,w.heap[b]?=some (.cells #[p,v] 127 (0,0))∧(p=.pointer none∨p=.pointer (some ⟨b,0,none⟩))∧w.ownsRow 0 5 1 v (List.length y.2.1) (List.map (fun x:UInt8=>Value.int .u8 x.toNat) y.2.1) ∧
   (∀g,v.ownBlock=some g→K g=.row 0 0∧g<w.heap.size)∧∃A n c,v=.slice A n c:=by
 obtain⟨av,o,h1,h2,h3⟩:=hh.cells b 0 hb hk
 have e1:av=⟨shBld,y⟩:=by
  have:some (⟨shBld,y⟩:AV)=some av:=h1
  cases this
  rfl
 subst e1
 obtain⟨cs,rfl,c1,c2,hcs,⟨q,hq,hq'⟩,c3,c4,hc34,⟨A,n,cap,hA,hA'⟩,h5⟩:=h3
 have h5':c4=[]:=h5
 subst h5' hA hc34 hq
 have hcs':cs=#[.pointer q,.slice A n cap]:=by
  apply Array.ext'
  rw[hcs]
  rfl
 subst hcs'
 refine⟨_,_,h2,?_,?_,?_,_,_,_,rfl⟩
 ·rcases hq' with rfl |⟨b',rfl,hb1,hb2⟩
  ·exact .inl rfl
  ·rw[hh.uniq b' b 0 hb2 hb hb1 hk]
   exact .inr rfl
 ·rcases hA' with⟨rfl,rfl,rfl,hx⟩ |⟨g,cur,rfl,hg1,hg2,hg3,hg4,hg5,hg6,hg7⟩
  ·rw[hx]
   exact⟨rfl,.inl ⟨rfl,rfl⟩⟩
  ·subst hg3
   exact⟨by simp,.inr ⟨g,cap,cur,rfl,Nat.zero_le _,hg2,hg4,hg5,by rw[hg6,Nat.mul_one],by rw[Nat.mul_one];exact hg7⟩⟩
 ·intro g hg
  rcases hA' with⟨rfl,_⟩ |⟨g',cur,rfl,hg1,hg2,_⟩
  ·cases hg
  ·simp only[Value.ownBlock,Option.some.injEq] at hg
   subst hg
   exact⟨hg1,(Array.getElem?_eq_some_iff.1 hg2).1⟩
def newK (w:World) (K:Kinds) (v:Value):Kinds:=fun k=>if k<w.heap.size then K k else if v.ownBlock=some k then .row 0 0 else .old
theorem newK_old {w:World} {K:Kinds} {v:Value} {k:Nat} (h:k<w.heap.size):newK w K v k=K k:=if_pos h
theorem newK_box {w:World} {K:Kinds} {v:Value} {k id:Nat} (h:newK w K v k=.box id):k<w.heap.size∧K k=.box id:=by
 unfold newK at h
 split at h
 ·exact⟨by assumption,h⟩
 ·split at h<;>cases h
theorem bld_ext {w w':World} {K:Kinds} {b:Nat} {v u:Value} {cs cs':Array Value} {T:TypeId} (os:w'.os=w.os) (tape:w'.tape=w.tape) (output:w'.output=w.output) (size:w.heap.size≤w'.heap.size)
  (hkb:K b=.box 0) (hv:∀g,v.ownBlock=some g→K g=.row 0 0) (hb:w.heap[b]?=some (.cells cs T (0,0))) (hb':w'.heap[b]?=some (.cells cs' T (0,0))) (hsz:cs.size≤cs'.size)
  (hoth:∀k,k<w.heap.size→k≠b→some k≠v.ownBlock→w'.heap[k]?=w.heap[k]?):Ext w K w' (newK w K u) where
 os:=os
 tape:=tape
 output:=output
 size:=size
 fix:=fun k hk hf=>⟨newK_old hk,hoth k hk (fun e=>by rw[e,hkb] at hf;cases hf) (fun e=>by rw[hv k e.symm] at hf;cases hf)⟩
 stab:=fun k o hk hs=>by
  refine⟨by unfold Stab at *;rw[newK_old hk];exact hs,World.cell?_of_block (hoth k hk (fun e=>?_) (fun e=>?_))⟩
  ·unfold Stab at hs
   rw[e,hkb] at hs
   exact hs.elim
  ·unfold Stab at hs
   rw[hv k e.symm] at hs
   exact absurd hs (Nat.not_lt_zero _)
 box:=fun k id hk h=>by rw[newK_old hk];exact h
 bsz:=fun k id n hk h hn=>by
  by_cases e:k=b
  ·subst e
   obtain⟨c,T',h1,h2⟩:=hn
   rw[hb] at h1
   cases h1
   exact⟨_,_,hb',Nat.le_trans h2 hsz⟩
  ·obtain⟨c,T',h1,h2⟩:=hn
   exact⟨c,T',(hoth k hk e (fun e=>by rw[hv k e.symm] at h;cases h)).trans h1,h2⟩
theorem heap_one {w':World} {w:World} {K:Kinds} {s:Sh} {y:s.den} {s':Sh} {x':s'.den} {b:Nat} {u:Value} {o:Obj} (hh:HeapOk w K (enum 0 (savs [s] y))) (hb:b<w.heap.size) (hkb:K b=.box 0) (hb':w'.heap[b]?=some o) (ho:BoxOk w' (newK w K u) s' x' o) :
  HeapOk w' (newK w K u) (enum 0 (savs [s'] x')) where
 cells:=fun k id hk h=>by
  obtain⟨h1,h2⟩:=newK_box h
  obtain⟨av,o',l1,_⟩:=hh.cells k id h1 h2
  have hid:id<0+1:=look_enum_lt [⟨s,y⟩] 0 id av l1
  have:id=0:=by omega
  subst this
  have:=hh.uniq k b 0 h1 hb h2 hkb
  subst this
  exact⟨⟨s',x'⟩,o,rfl,hb',ho⟩
 uniq:=fun k k' id hk hk' h h'=>by
  obtain⟨h1,h2⟩:=newK_box h
  obtain⟨h3,h4⟩:=newK_box h'
  exact hh.uniq k k' id h1 h3 h2 h4
theorem write_body:BodyOk Tryz.prog 70 body_WriteString:=by
 intro args h0 nx Kc r hrun w K vs hvs hh Rf hk _
 simp only[body_WriteString,bodyT] at hrun
 split at hrun
 ·rename_i x y hx hy
  cases hG:qcC y.2.1 x.2 with
  |false=>rw[hG] at hrun;cases hrun
  |true =>
   rw[hG] at hrun
   simp only[cond_true] at hrun
   have hho:=hh.to hy
   have hrv:=toAll_RVs _ args x vs hx hvs
   match vs,hrv with
   |v1::v2::vr,hrv =>
   obtain⟨r1,r2,r3⟩:=hrv
   have hvr:vr=[]:=by
    cases vr with
    |nil=>rfl
    |cons _ _=>exact r3.elim
   subst hvr
   obtain⟨b,rfl,hkb,hb⟩:=RV.box r1
   have e2:=RV.str r2
   subst e2
   obtain⟨p,v,hbk,hp,hown,hrow,A,n,c,hvA⟩:=bld_box hho hb hkb
   have hne:v.ownBlock≠some b:=fun e=>by have:=(hrow b e).1;rw[hkb] at this;cases this
   have hlen:(List.map (fun x:UInt8=>Value.int .u8 x.toNat) y.2.1).length+(⟨⟨x.2⟩⟩:ByteArray).size≤140737488355328:=by
    have:=Nat.le_of_ble_eq_true (show Nat.ble (List.length y.2.1+List.length x.2) 140737488355328=true from hG)
    simpa [ByteArray.size] using this
   refine(write_run b p v (List.map (fun x:UInt8=>Value.int .u8 x.toNat) y.2.1) ⟨⟨x.2⟩⟩ w hbk hp (by rw[List.length_map];exact hown) hne hlen).mono ?_
   rintro e w' ⟨⟨rr,rfl⟩,v',w1,w2,hb',hown',hoth2,hsz2,hos2,htp2,hout2,hgrow,hoth1,hsz1,hos1,htp1,hout1,hnew⟩
   have hrow':∀g,v'.ownBlock=some g→newK w K v' g=.row 0 0∧g≠b:=fun g hg=>by
    rcases hnew with e |e
    ·obtain⟨h1,h2⟩:=hrow g (by rw[←e];exact hg)
     exact⟨(newK_old h2).trans h1,fun e=>by rw[e,hkb] at h1;cases h1⟩
    ·have:=e g hg
     refine⟨?_,by omega⟩
     unfold newK
     rw[if_neg (by omega),if_pos hg]
   refine hk ⟨.top,()⟩ rr _ _ w' (newK w K v') (bld_ext (by rw[hos2,hgrow.os,hos1]) (by rw[htp2,hgrow.tape,htp1]) (by rw[hout2,hgrow.output,hout1]) (by rw[hsz2,←hsz1];exact hgrow.size) hkb (fun g hg=>(hrow g hg).1) hbk hb' (Nat.le_refl _) (fun k hk hkb hkv=>?_)) trivial
    (heap_one hho hb hkb hb' ?_) hrun
   ·rw[hoth2 k hkb,hgrow.block k (by rw[hsz1];exact hk) hkv,hoth1 k hkb]
   ·refine⟨_,rfl,[_],[_],rfl,⟨_,rfl,.inr ⟨b,rfl,(newK_old hb).trans hkb,by rw[hsz2];exact Nat.lt_of_lt_of_le (by rw[hsz1];exact hb) hgrow.size⟩⟩,[_],[],rfl,?_,rfl⟩
    have hm:List.map (fun x:UInt8=>Value.int .u8 x.toNat) y.2.1++Lib.strCells ⟨⟨x.2⟩⟩=List.map (fun x:UInt8=>Value.int .u8 x.toNat) (y.2.1++x.2):=by
     simp[Lib.strCells]
    rw[hm,List.length_map] at hown'
    have hl:List.length y.2.1+(⟨⟨x.2⟩⟩:ByteArray).size=List.length (y.2.1++x.2):=by simp[ByteArray.size]
    rw[hl] at hown'
    rcases hown'.2 with⟨rfl,hz⟩ |⟨g,cap,cur,rfl,_,hg,hnc,hcm,hcs,htake⟩
    ·exact⟨_,_,_,rfl,.inl ⟨rfl,rfl,rfl,List.eq_nil_of_length_eq_zero hz⟩⟩
    ·obtain⟨q1,q2⟩:=hrow' g rfl
     exact⟨_,_,_,rfl,.inr ⟨g,cur,rfl,q1,(hoth2 g q2).trans hg,rfl,hnc,hcm,by simpa using hcs,by simpa [qdP] using htake⟩⟩
 ·cases hrun
theorem string_body:BodyOk Tryz.prog 71 body_String:=by
 intro args h0 nx Kc r hrun w K vs hvs hh Rf hk _
 simp only[body_String,bodyT] at hrun
 split at hrun
 ·rename_i x y hx hy
  simp only[cond_true] at hrun
  have hho:=hh.to hy
  have hrv:=toAll_RVs _ args x vs hx hvs
  match vs,hrv with
  |v1::vr,hrv =>
  obtain⟨r1,r3⟩:=hrv
  have hvr:vr=[]:=by
   cases vr with
   |nil=>rfl
   |cons _ _=>exact r3.elim
  subst hvr
  obtain⟨b,rfl,hkb,hb⟩:=RV.box r1
  obtain⟨p,v,hbk,hp,hown,hrow,A,n,c,hvA⟩:=bld_box hho hb hkb
  have hne:some b≠v.ownBlock:=fun e=>by have:=(hrow b e.symm).1;rw[hkb] at this;cases this
  refine(string_run b p v y.2.1 w hbk hown).mono ?_
  rintro e w' ⟨rfl,hgrow⟩
  have hb':w'.heap[b]?=_:=(hgrow.block b hb hne).trans hbk
  refine hk ⟨.ty .str,y.2.1⟩ _ _ _ w' (newK w K (.bool true)) (bld_ext hgrow.os hgrow.tape hgrow.output hgrow.size hkb (fun g hg=>(hrow g hg).1) hbk hb' (Nat.le_refl _) (fun k hk _ hkv=>hgrow.block k hk hkv)) ⟨rfl,⟨(fun h=>by cases h),(fun _ c h=>by cases h)⟩⟩
   (heap_one hho hb hkb hb' ?_) hrun
  subst hvA
  rcases hp with rfl |rfl
  ·exact⟨_,rfl,[_],[_],rfl,⟨_,rfl,.inl rfl⟩,[_],[],rfl,⟨_,rfl,rfl⟩,rfl⟩
  ·exact⟨_,rfl,[_],[_],rfl,⟨_,rfl,.inr ⟨b,rfl,(newK_old hb).trans hkb,Nat.lt_of_lt_of_le hb hgrow.size⟩⟩,[_],[],rfl,⟨_,rfl,rfl⟩,rfl⟩
 ·cases hrun
end Go.Proofs.YtealbjacocgjcaaGreat
end
section
namespace Go.Proofs.YtealbjacocgjcaaGreat
open Go Go.RowKit Go.Av Go.Proofs
set_option maxRecDepth 100000 in
set_option maxHeartbeats 4000000 in
theorem offset_run (b mb g g2 n cap n2 cap2 o o2:Nat) (i j lab x y:Int) (w:World)
  (c0:w.cell? ⟨b,0,none⟩=some (.slice (some ⟨g,o,none⟩) n cap)) (c2:w.cell? ⟨b,2,none⟩=some (.map (some mb)))
  (ci:w.cell? ⟨g,o+i.toNat*10+1,none⟩=some (.int .i64 lab)) (hi:0≤i∧i<(n:Int))
  (hl:∀m:Nat,(Instr.lookup 118 (.map (some mb)) (.int .i64 lab) false).run Tryz.prog (w.drewN m)=.ok (.int .i64 j) (w.drewN m))
  (hj:0≤j∧j<(n2:Int)) (hi2:0≤i∧i<(n2:Int)) (cj:w.cell? ⟨g2,o2+j.toNat,none⟩=some (.int .i64 x)) (ck:w.cell? ⟨g2,o2+i.toNat,none⟩=some (.int .i64 y)) :
  Calls Tryz.prog 68 #[.pointer (some ⟨b,0,none⟩),.slice (some ⟨g2,o2,none⟩) n2 cap2,.int .i64 i] w fun e w'=>e=.returned (.int .i64 (wrap64 (wrap64 (x-y)-4)))∧∃m,w'=w.drewN m:=by
 go_enter Tryz.func68,Tryz.ntmps68
 go_wp2
 go_quiet (fail)
 go_wp2
 go_ret
 exact⟨rfl,_,rfl⟩
theorem drew_ext (w:World) (K:Kinds) (m:Nat):Ext w K (w.drewN m) K :=
 ⟨rfl,rfl,rfl,Nat.le_refl _,fun _ _ _=>⟨rfl,rfl⟩,fun _ _ _ h=>⟨h,rfl⟩,fun _ _ _ h=>h,fun _ _ _ _ _ h=>h⟩
theorem label_at {w:World} {K:Kinds}:∀(it:List tItem.den) (cc:List Value) (i:Nat),RL (RT w K tItem) it cc→i<it.length→cc[i*10+1]?=some (.int .i64 (it.getD i (Ty.dflt tItem)).2.1)
 |[],_,_,_,h=>absurd h (Nat.not_lt_zero _)
 |x::it,_,0,⟨_,_,rfl,h1,_⟩,_=>by
  obtain⟨d1,d2,rfl,e1,e2⟩:=h1
  obtain⟨d3,d4,rfl,e3,_⟩:=e2
  have e1':d1=[.int .i64 x.1]:=e1
  have e3':d3=[.int .i64 x.2.1]:=e3
  subst e1' e3'
  rfl
 |x::it,_,i+1,⟨c1,c2,rfl,h1,h2⟩,h=>by
  have hl:c1.length=10:=RT.length tItem x c1 h1
  have:=label_at it c2 i h2 (by simpa using h)
  rw[show(i+1)*10+1=10+(i*10+1) by omega,List.getElem?_append_right (by omega),hl,show 10+(i*10+1)-10=i*10+1 by omega,this]
  rfl
theorem int_at {w:World} {K:Kinds}:∀(l:List Int) (cc:List Value) (i:Nat),RL (RT w K (.int .i64)) l cc→i<l.length→cc[i]?=some (.int .i64 (l.getD i 0))
 |[],_,_,_,h=>absurd h (Nat.not_lt_zero _)
 |x::l,_,0,⟨_,_,rfl,h1,_⟩,_=>by
  rw[show _=[Value.int .i64 x] from h1]
  rfl
 |x::l,_,i+1,⟨c1,c2,rfl,h1,h2⟩,h=>by
  have e:c1=[Value.int .i64 x]:=h1
  subst e
  exact int_at l c2 i h2 (by simpa using h)
theorem inRange_facts {i:Int} {n:Nat} (h:inRange i n=true):0≤i∧i<(n:Int):=by
 unfold inRange at h
 simpa using h
theorem offset_plain:PlainOk Tryz.prog 68 snap_asm_assembler_offset:=by
 intro args v h w K vs hvs _
 unfold snap_asm_assembler_offset at h
 split at h
 ·match vs,hvs with
  |u::vs,hvs =>
   obtain⟨ts,_,ht⟩:=hvs.1
   exact ht.elim
 ·cases h
theorem offset_snap:SnapOk Tryz.prog 68 snap_asm_assembler_offset:=by
 intro sl en rest v h w K p vs hat hvs hfix
 unfold snap_asm_assembler_offset at h
 split at h
 ·rename_i l a0 e it en' at_ i heq
  simp only[List.cons.injEq] at heq
  obtain⟨_,rfl,rfl,rfl⟩:=heq
  split at h
  ·rename_i he _
   subst he
   simp only[Option.some.injEq,Prod.mk.injEq] at h
   obtain⟨hg,rfl⟩:=h
   obtain⟨b,cs,T,c0,c1,mb,cr,ob,rfl,hb,hcs,h0,hm,hmo⟩:=hat
   match vs,hvs with
   |va::vi::vr,hvs =>
   obtain⟨hva,hvi,hvr⟩:=hvs
   have hvr':vr=[]:=by
    cases vr with
    |nil=>rfl
    |cons _ _=>exact hvr.elim
   subst hvr'
   have evi:vi=.int .i64 i:=RV.int hvi
   subst evi
   obtain⟨A2,len2,cap2,rfl,A3,len3,cap3,e3,x1,x2,x3,x4⟩:=RV.sl hva
   simp only[List.cons.injEq,and_true,Value.slice.injEq] at e3
   obtain⟨rfl,rfl,rfl⟩:=e3
   obtain⟨A,len,cap,hc0,y1,y2,y3,y4⟩:=h0
   simp only[List.cons.injEq,and_true] at hc0
   subst hc0
   obtain⟨es,mc,rfl,hmis⟩:=hmo
   unfold qcw at hg
   simp only[Bool.and_eq_true] at hg
   obtain⟨g1,g2,g3⟩:=hg
   have i1:=inRange_facts g1
   have i2:=inRange_facts g2
   have i3:=inRange_facts g3
   have hlen:0<len:=by
    have:(0:Int)<(List.length it:Int):=by omega
    have e1:len=List.length it:=y1
    omega
   have hlen2:0<len2:=by
    have:(0:Int)<(List.length at_:Int):=by omega
    have e1:len2=List.length at_:=x1
    omega
   obtain⟨a,rfl⟩:∃a,A=some a:=by
    cases A with
    |none=>have:=y3 rfl;omega
    |some a=>exact⟨a,rfl⟩
   obtain⟨a2,rfl⟩:∃a,A2=some a:=by
    cases A2 with
    |none=>have:=x3 rfl;omega
    |some a=>exact⟨a,rfl⟩
   obtain⟨cc,q1,q2⟩:=y4 a rfl
   obtain⟨cc2,p1,p2⟩:=x4 a2 rfl
   have t1:=label_at it cc i.toNat q1 (by omega)
   have t2:=int_at at_ cc2 (mval en' (it.getD i.toNat (Ty.dflt tItem)).2.1).toNat p1 (by omega)
   have t3:=int_at at_ cc2 i.toNat p1 (by omega)
   obtain⟨s1,s2,_⟩:=q2 _ _ t1
   obtain⟨s3,s4,_⟩:=p2 _ _ t2
   obtain⟨_,s5,_⟩:=p2 _ _ t3
   obtain⟨ab,ao,asp⟩:=a
   obtain⟨ab2,ao2,asp2⟩:=a2
   have s1':asp=none:=s1
   have s3':asp2=none:=s3
   subst s1' s3'
   have hcell:∀k,w.cell? ⟨b,k,none⟩=cs[k]?:=fun k=>by
    simp[World.cell?,hb]
   have hk:∀k:Nat,cs[k]?=cs.toList[k]?:=fun k=>by simp
   have hml:∀m:Nat,(Instr.lookup 118 (.map (some mb)) (.int .i64 (it.getD i.toNat (Ty.dflt tItem)).2.1) false).run Tryz.prog (w.drewN m)=.ok (.int .i64 (mval en' (it.getD i.toNat (Ty.dflt tItem)).2.1)) (w.drewN m):=fun m =>
    run_lookup (w:=w.drewN m) (t:=118) (by kernel_rfl) hm hmis _ false
   refine(offset_run b mb ab ab2 len cap len2 cap2 ao ao2 i _ _ _ _ w (by rw[hcell,hk,hcs];rfl) (by rw[hcell,hk,hcs];rfl) s2 ⟨i1.1,by rw[y1];exact i1.2⟩ hml ⟨i2.1,by rw[x1];exact i2.2⟩ ⟨i3.1,by rw[x1];exact i3.2⟩ s4 s5).mono ?_
   rintro e w' ⟨rfl,m,rfl⟩
   refine⟨_,K,rfl,drew_ext w K m,fun b' id hb' hk'=>?_,RV.scalar (av:=.int .i64 _) ?_ rfl rfl⟩
   rotate_left
   ·show[Value.int .i64 _]=[Value.int .i64 _]
    unfold qF
    simp only[IntKind.wrap_i64,wrap64]
   have:=hfix b' hb'
   rw[hk'] at this
   cases this
  ·cases h
 ·cases h
end Go.Proofs.YtealbjacocgjcaaGreat
end
section
namespace Go.Proofs.YtealbjacocgjcaaGreat
open Go Go.Av Go.Proofs
noncomputable def cRE10:Ctx:=baseC Tryz.prog [31,33,57,23,95,50,193,90,81,44,41,184]
theorem cRE10_good:Av.Good cRE10:=good_base (by kernel_rfl) (by kernel_rfl) (by kernel_rfl)
noncomputable def cRE11:Ctx:=cRE10.addPlain 127 (plainT qe0 qir qgx qT)
theorem cRE11_good:Av.Good cRE11:=cRE10_good.fnP qgx qby qir qT 2 8 (by kernel_rfl) (fun x=>by kernel_rfl) qlh
noncomputable def cRE12:Ctx:=cRE11.addPlain 128 (plainT qfx qiY qg6 qba)
theorem cRE12_good:Av.Good cRE12:=cRE11_good.fnP qg6 qcA qiY qba 2 8 (by kernel_rfl) (fun x=>by kernel_rfl) qlw
noncomputable def cRE13:Ctx:=cRE12.addPlain 126 (plainT qeU qiv qgH qz)
theorem cRE13_good:Av.Good cRE13:=cRE12_good.fnP qgH qZ qiv qz 2 8 (by kernel_rfl) (fun x=>by kernel_rfl) qkZ
noncomputable def cRE14:Ctx:=cRE13.addPlain 102 (plainT qfK qi9 qg0 qN)
theorem cRE14_good:Av.Good cRE14:=cRE13_good.fnP qg0 qc3 qi9 qN 3 8 (by kernel_rfl) (fun x=>by kernel_rfl) qlx
noncomputable def cRE15:Ctx:=cRE14.addPlain 125 (plainT qeW qiA qgs qcH)
theorem cRE15_good:Av.Good cRE15:=cRE14_good.fnP qgs qcN qiA qcH 3 8 (by kernel_rfl) (fun x=>by kernel_rfl) qlg
noncomputable def cRE16:Ctx:=cRE15.addPlain 105 (plainT qfM qi1 qhi qd)
theorem cRE16_good:Av.Good cRE16:=cRE15_good.fnP qhi qU qi1 qd 3 8 (by kernel_rfl) (fun x=>by kernel_rfl) qlj
noncomputable def cRE17:Ctx:=cRE16.addPlain 143 (plainT qgV qt qiE qe)
theorem cRE17_good:Av.Good cRE17:=cRE16_good.fnP qiE qdR qt qe 2 6 (by kernel_rfl) (fun x=>by kernel_rfl) qlX
noncomputable def cRE18:Ctx:=cRE17.addPlain 130 (plainT qeo qbe qfV qY)
theorem cRE18_good:Av.Good cRE18:=cRE17_good.fnP qfV qj qbe qY 4 8 (by kernel_rfl) (fun x=>by kernel_rfl) qkS
noncomputable def cRE19:Ctx:=cRE18.addPlain 129 (plainT qgk qgb qhS qgj)
theorem cRE19_good:Av.Good cRE19:=cRE18_good.fnP qhS qbU qgb qgj 4 8 (by kernel_rfl) (fun x=>by kernel_rfl) qlF
noncomputable def cRE110:Ctx:=cRE19.addPlain 144 (plainT qfN qc2 qhl qc4)
theorem cRE110_good:Av.Good cRE110:=cRE19_good.fnP qhl qL qc2 qc4 4 8 (by kernel_rfl) (fun x=>by kernel_rfl) qlm
noncomputable def cRE111:Ctx:=cRE110.addPlain 145 (plainT qf6 qhW qhH qhA)
theorem cRE111_good:Av.Good cRE111:=cRE110_good.fnP qhH qbw qhW qhA 4 8 (by kernel_rfl) (fun x=>by kernel_rfl) qlC
noncomputable def cRE112:Ctx:=cRE111.addPlain 131 (plainT qfa qgy qgA qgt)
theorem cRE112_good:Av.Good cRE112:=cRE111_good.fnP qgA qo qgy qgt 4 8 (by kernel_rfl) (fun x=>by kernel_rfl) qk4
noncomputable def cRE113:Ctx:=cRE112.addPlain 106 (plainT qgm qcx qhQ qQ)
theorem cRE113_good:Av.Good cRE113:=cRE112_good.fnP qhQ qn qcx qQ 4 8 (by kernel_rfl) (fun x=>by kernel_rfl) qlP
noncomputable def cRE114:Ctx:=cRE113.addPlain 103 (plainT qga qjD qhD q6)
theorem cRE114_good:Av.Good cRE114:=cRE113_good.fnP qhD qjB qjD q6 4 8 (by kernel_rfl) (fun x=>by kernel_rfl) qlK
noncomputable def cRE115:Ctx:=cRE114.addPlain 110 (plainT qgT qj3 qiI qr)
theorem cRE115_good:Av.Good cRE115:=cRE114_good.fnP qiI qkJ qj3 qr 2 8 (by kernel_rfl) (fun x=>by kernel_rfl) qlV
noncomputable def cRE116:Ctx:=cRE115.addPlain 135 (plainT qgX qjZ qiF qbi)
theorem cRE116_good:Av.Good cRE116:=cRE115_good.fnP qiF qkF qjZ qbi 2 8 (by kernel_rfl) (fun x=>by kernel_rfl) qlR
noncomputable def cRE117:Ctx:=cRE116.addPlain 115 (plainT qh5 qkg qjl qdk)
theorem cRE117_good:Av.Good cRE117:=cRE116_good.fnP qjl qlf qkg qdk 2 8 (by kernel_rfl) (fun x=>by kernel_rfl) qmf
noncomputable def cRE118:Ctx:=cRE117.addPlain 171 (plainT qij qko qjr qdL)
theorem cRE118_good:Av.Good cRE118:=cRE117_good.fnP qjr qle qko qdL 2 8 (by kernel_rfl) (fun x=>by kernel_rfl) ql0
noncomputable def cRE119:Ctx:=cRE118.addPlain 172 (plainT qfe qiB qgI qcK)
theorem cRE119_good:Av.Good cRE119:=cRE118_good.fnP qgI qkc qiB qcK 2 8 (by kernel_rfl) (fun x=>by kernel_rfl) qkU
noncomputable def cRE120:Ctx:=cRE119.addPlain 154 (plainT qhL qkr qjn qez)
theorem cRE120_good:Av.Good cRE120:=cRE119_good.fnP qjn qk5 qkr qez 2 8 (by kernel_rfl) (fun x=>by kernel_rfl) ql7
noncomputable def cRE121:Ctx:=cRE120.addPlain 155 (plainT qgN qjX qiH qfQ)
theorem cRE121_good:Av.Good cRE121:=cRE120_good.fnP qiH qkI qjX qfQ 2 8 (by kernel_rfl) (fun x=>by kernel_rfl) qlT
noncomputable def cRE122:Ctx:=cRE121.addPlain 77 (plainT qhz qkh qjp qbt)
theorem cRE122_good:Av.Good cRE122:=cRE121_good.fnP qjp qk8 qkh qbt 2 8 (by kernel_rfl) (fun x=>by kernel_rfl) qmc
noncomputable def cRE123:Ctx:=cRE122.addPlain 169 (plainT qhU qkp qjt qey)
theorem cRE123_good:Av.Good cRE123:=cRE122_good.fnP qjt qlc qkp qey 2 8 (by kernel_rfl) (fun x=>by kernel_rfl) qmd
noncomputable def cRE124:Ctx:=cRE123.addPlain 170 (plainT qiU qkz qjQ qeD)
theorem cRE124_good:Av.Good cRE124:=cRE123_good.fnP qjQ qlB qkz qeD 2 8 (by kernel_rfl) (fun x=>by kernel_rfl) qmg
noncomputable def cRE125:Ctx:=cRE124.addPlain 134 (plainT qia qki qjf qdj)
theorem cRE125_good:Av.Good cRE125:=cRE124_good.fnP qjf qld qki qdj 2 8 (by kernel_rfl) (fun x=>by kernel_rfl) ql3
noncomputable def cRE126:Ctx:=cRE125.addPlain 165 (plainT qh9 qkj qjg qgG)
theorem cRE126_good:Av.Good cRE126:=cRE125_good.fnP qjg qla qkj qgG 2 8 (by kernel_rfl) (fun x=>by kernel_rfl) ql9
noncomputable def cRE127:Ctx:=cRE126.addPlain 166 (plainT qhY qhM qjj qew)
theorem cRE127_good:Av.Good cRE127:=cRE126_good.fnP qjj qkT qhM qew 2 8 (by kernel_rfl) (fun x=>by kernel_rfl) ql2
noncomputable def cRE128:Ctx:=cRE127.addPlain 167 (plainT qhK qkn qju qil)
theorem cRE128_good:Av.Good cRE128:=cRE127_good.fnP qju qk6 qkn qil 2 8 (by kernel_rfl) (fun x=>by kernel_rfl) ql8
noncomputable def cRE129:Ctx:=cRE128.addPlain 168 (plainT qid qkq qjo qhR)
theorem cRE129_good:Av.Good cRE129:=cRE128_good.fnP qjo qk9 qkq qhR 2 8 (by kernel_rfl) (fun x=>by kernel_rfl) qmb
noncomputable def cRE130:Ctx:=cRE129.addPlain 164 (plainT qfD qja qg5 qfv)
theorem cRE130_good:Av.Good cRE130:=cRE129_good.fnP qg5 qks qja qfv 2 8 (by kernel_rfl) (fun x=>by kernel_rfl) qlt
noncomputable def cRE131:Ctx:=cRE130.addPlain 173 (plainT qh4 qkf qjm qgr)
theorem cRE131_good:Av.Good cRE131:=cRE130_good.fnP qjm qkY qkf qgr 2 8 (by kernel_rfl) (fun x=>by kernel_rfl) qme
noncomputable def cRE132:Ctx:=cRE131.addPlain 150 (plainT qgL qj5 qiD qdO)
theorem cRE132_good:Av.Good cRE132:=cRE131_good.fnP qiD qiK qj5 qdO 2 8 (by kernel_rfl) (fun x=>by kernel_rfl) qlW
noncomputable def cRE133:Ctx:=cRE132.addPlain 139 (plainT qhO qkl qje qb1)
theorem cRE133_good:Av.Good cRE133:=cRE132_good.fnP qje qgC qkl qb1 2 8 (by kernel_rfl) (fun x=>by kernel_rfl) ql1
noncomputable def cRE134:Ctx:=cRE133.addLoop 137 2 qeh.toT.toLoop
theorem cRE134_good:Av.Good cRE134:=cRE133_good.loopN qeh 2 8 (by kernel_rfl) (fun _ _=>rfl) (fun x y s m K=>by kernel_rfl) (fun x y s s' K e=>by kernel_rfl)
noncomputable def cRE135:Ctx:=cRE134.addPlain 137 (plainT qgP qdN qiC qW)
theorem cRE135_good:Av.Good cRE135:=cRE134_good.fnP qiC qj1 qdN qW 2 8 (by kernel_rfl) (fun x=>by kernel_rfl) qlZ
noncomputable def cRE136:Ctx:=cRE135.addPlain 151 (plainT qgp qcS qh0 qdV)
theorem cRE136_good:Av.Good cRE136:=cRE135_good.fnP qh0 qjE qcS qdV 2 8 (by kernel_rfl) (fun x=>by kernel_rfl) qlO
noncomputable def cRE137:Ctx:=cRE136.addPlain 152 (plainT qfL qi4 qhd qfs)
theorem cRE137_good:Av.Good cRE137:=cRE136_good.fnP qhd qfB qi4 qfs 2 8 (by kernel_rfl) (fun x=>by kernel_rfl) qlA
noncomputable def cRE138:Ctx:=cRE137.addPlain 153 (plainT qiM qkv qjP qiV)
theorem cRE138_good:Av.Good cRE138:=cRE137_good.fnP qjP qiR qkv qiV 2 8 (by kernel_rfl) (fun x=>by kernel_rfl) qmi
noncomputable def cRE139:Ctx:=cRE138.addPlain 156 (plainT qfH qi7 qhm qc0)
theorem cRE139_good:Av.Good cRE139:=cRE138_good.fnP qhm qg7 qi7 qc0 2 8 (by kernel_rfl) (fun x=>by kernel_rfl) qli
noncomputable def cRE140:Ctx:=cRE139.addPlain 140 (plainT qgW qgO qiG qfP)
theorem cRE140_good:Av.Good cRE140:=cRE139_good.fnP qiG qfR qgO qfP 2 8 (by kernel_rfl) (fun x=>by kernel_rfl) qlY
noncomputable def cRE141:Ctx:=cRE140.addPlain 116 (plainT qgc qcz qhT qc)
theorem cRE141_good:Av.Good cRE141:=cRE140_good.fnP qhT qgf qcz qc 2 8 (by kernel_rfl) (fun x=>by kernel_rfl) qlD
noncomputable def cRE142:Ctx:=cRE141.addPlain 119 (plainT qh1 qb5 qjh qB)
theorem cRE142_good:Av.Good cRE142:=cRE141_good.fnP qjh qjs qb5 qB 2 8 (by kernel_rfl) (fun x=>by kernel_rfl) ql6
noncomputable def cRE143:Ctx:=cRE142.addPlain 118 (plainT qgi qbp qib qbg)
theorem cRE143_good:Av.Good cRE143:=cRE142_good.fnP qib qh7 qbp qbg 2 8 (by kernel_rfl) (fun x=>by kernel_rfl) qlJ
noncomputable def cRE144:Ctx:=cRE143.addPlain 53 (plainT qeZ qiq qgz qE)
theorem cRE144_good:Av.Good cRE144:=cRE143_good.fnP qgz qdT qiq qE 2 8 (by kernel_rfl) (fun x=>by kernel_rfl) qk1
noncomputable def cRE145:Ctx:=cRE144.addPlain 157 (plainT qf5 qjF qic qd6)
theorem cRE145_good:Av.Good cRE145:=cRE144_good.fnP qic qhP qjF qd6 2 8 (by kernel_rfl) (fun x=>by kernel_rfl) qlM
noncomputable def cRE146:Ctx:=cRE145.addLoop 141 6 qeA.toT.toLoop
theorem cRE146_good:Av.Good cRE146:=cRE145_good.loopN qeA 2 8 (by kernel_rfl) (fun _ _=>rfl) (fun x y s m K=>by kernel_rfl) (fun x y s s' K e=>by kernel_rfl)
noncomputable def cRE147:Ctx:=cRE146.addPlain 141 (plainT qfC qdC qhn qm)
theorem cRE147_good:Av.Good cRE147:=cRE146_good.fnP qhn qi3 qdC qm 2 8 (by kernel_rfl) (fun x=>by kernel_rfl) qlv
noncomputable def cRE148:Ctx:=cRE147.addPlain 74 (plainT qf4 qjy qih qD)
theorem cRE148_good:Av.Good cRE148:=cRE147_good.fnP qih qhy qjy qD 2 8 (by kernel_rfl) (fun x=>by kernel_rfl) qlL
noncomputable def cRE149:Ctx:=cRE148.addLoop 91 6 qdf.toT.toLoop
theorem cRE149_good:Av.Good cRE149:=cRE148_good.loopN qdf 2 8 (by kernel_rfl) (fun _ _=>rfl) (fun x y s m K=>by kernel_rfl) (fun x y s s' K e=>by kernel_rfl)
noncomputable def cRE150:Ctx:=cRE149.addBody 91 (bodyT qcG qcI qdI qeY qbm ql)
theorem cRE150_good:Av.Good cRE150:=cRE149_good.fnB qdI qfq qbm ql 2 8 (by kernel_rfl) (fun x y=>by kernel_rfl) qj6
noncomputable def cRE151:Ctx:=cRE150.addBody 138 (bodyT qco qci qdt qeM qbo qw)
theorem cRE151_good:Av.Good cRE151:=cRE150_good.fnB qdt qe6 qbo qw 2 8 (by kernel_rfl) (fun x y=>by kernel_rfl) qj4
noncomputable def cRE152:Ctx:=cRE151.addBody 92 (bodyT qcd qcc qdi qee qeP qbx)
theorem cRE152_good:Av.Good cRE152:=cRE151_good.fnB qdi qgQ qeP qbx 2 8 (by kernel_rfl) (fun x y=>by kernel_rfl) qjM
noncomputable def cRE153:Ctx:=cRE152.addPlain 112 (plainT qd0 qhp qfh qH)
theorem cRE153_good:Av.Good cRE153:=cRE152_good.fnP qfh qd1 qhp qH 2 8 (by kernel_rfl) (fun x=>by kernel_rfl) qkB
noncomputable def cRE154:Ctx:=cRE153.addLoop 76 8 qe3.toT.toLoop
theorem cRE154_good:Av.Good cRE154:=cRE153_good.loopN qe3 2 8 (by kernel_rfl) (fun _ _=>rfl) (fun x y s m K=>by kernel_rfl) (fun x y s s' K e=>by kernel_rfl)
noncomputable def cRE155:Ctx:=cRE154.addLoop 76 15 qer.toT.toLoop
theorem cRE155_good:Av.Good cRE155:=cRE154_good.loopN qer 2 8 (by kernel_rfl) (fun _ _=>rfl) (fun x y s m K=>by kernel_rfl) (fun x y s s' K e=>by kernel_rfl)
noncomputable def cRE156:Ctx:=cRE155.addPlain 107 (plainT qgh qjC qhF qS)
theorem cRE156_good:Av.Good cRE156:=cRE155_good.fnP qhF qik qjC qS 2 8 (by kernel_rfl) (fun x=>by kernel_rfl) qlI
noncomputable def cRE157:Ctx:=cRE156.addPlain 69 (plainT qfd qdd qgE q7)
theorem cRE157_good:Av.Good cRE157:=cRE156_good.fnP qgE qbd qdd q7 2 8 (by kernel_rfl) (fun x=>by kernel_rfl) qkV
noncomputable def cRE158:Ctx:=cRE157.addPlain 158 (plainT qfJ qh qha qb)
theorem cRE158_good:Av.Good cRE158:=cRE157_good.fnP qha qhg qh qb 2 8 (by kernel_rfl) (fun x=>by kernel_rfl) qll
noncomputable def cRE159:Ctx:=cRE158.addPlain 148 (plainT qfw q0 qg4 qV)
theorem cRE159_good:Av.Good cRE159:=cRE158_good.fnP qg4 qhe q0 qV 2 8 (by kernel_rfl) (fun x=>by kernel_rfl) qln
noncomputable def cRE160:Ctx:=cRE159.addPlain 159 (plainT qet q8 qf2 qO)
theorem cRE160_good:Av.Good cRE160:=cRE159_good.fnP qf2 qeE q8 qO 2 8 (by kernel_rfl) (fun x=>by kernel_rfl) qkL
noncomputable def cRE161:Ctx:=cRE160.addLoop 174 2 qbs.toT.toLoop
theorem cRE161_good:Av.Good cRE161:=cRE160_good.loopN qbs 2 8 (by kernel_rfl) (fun _ _=>rfl) (fun x y s m K=>by kernel_rfl) (fun x y s s' K e=>by kernel_rfl)
noncomputable def cRE162:Ctx:=cRE161.addPlain 174 (plainT qfO qy qg3 qG)
theorem cRE162_good:Av.Good cRE162:=cRE161_good.fnP qg3 qjb qy qG 2 8 (by kernel_rfl) (fun x=>by kernel_rfl) qlk
noncomputable def cRE163:Ctx:=cRE162.addPlain 146 (plainT qfz qiX qgY qbb)
theorem cRE163_good:Av.Good cRE163:=cRE162_good.fnP qgY qi6 qiX qbb 2 8 (by kernel_rfl) (fun x=>by kernel_rfl) qlu
noncomputable def cRE164:Ctx:=cRE163.addPlain 147 (plainT qel qcY qfY qbj)
theorem cRE164_good:Av.Good cRE164:=cRE163_good.fnP qfY qdu qcY qbj 2 12 (by kernel_rfl) (fun x=>by kernel_rfl) qkP
noncomputable def cRE165:Ctx:=cRE164.addPlain 160 (plainT qe7 qdc qgF qbq)
theorem cRE165_good:Av.Good cRE165:=cRE164_good.fnP qgF qdS qdc qbq 3 12 (by kernel_rfl) (fun x=>by kernel_rfl) qkX
noncomputable def cRE166:Ctx:=cRE165.addPlain 161 (plainT qd7 qcD qfi qbf)
theorem cRE166_good:Av.Good cRE166:=cRE165_good.fnP qfi qda qcD qbf 2 12 (by kernel_rfl) (fun x=>by kernel_rfl) qkA
noncomputable def cRE167:Ctx:=cRE166.addPlain 162 (plainT qe5 qc9 qgv qbr)
theorem cRE167_good:Av.Good cRE167:=cRE166_good.fnP qgv qdU qc9 qbr 2 12 (by kernel_rfl) (fun x=>by kernel_rfl) qk2
noncomputable def cRE168:Ctx:=cRE167.addPlain 163 (plainT qem qcO qfZ qbk)
theorem cRE168_good:Av.Good cRE168:=cRE167_good.fnP qfZ qdy qcO qbk 2 12 (by kernel_rfl) (fun x=>by kernel_rfl) qkK
noncomputable def cRE169:Ctx:=cRE168.addPlain 149 (plainT qfG qei qg1 qdD)
theorem cRE169_good:Av.Good cRE169:=cRE168_good.fnP qg1 qek qei qdD 2 12 (by kernel_rfl) (fun x=>by kernel_rfl) qlo
noncomputable def cRE170:Ctx:=cRE169.addPlain 136 (plainT qex qdp qfW qk)
theorem cRE170_good:Av.Good cRE170:=cRE169_good.fnP qfW qdB qdp qk 2 12 (by kernel_rfl) (fun x=>by kernel_rfl) qkO
noncomputable def cRE171:Ctx:=cRE170.addPlain 113 (plainT qgR qiJ qiL qeK)
theorem cRE171_good:Av.Good cRE171:=cRE170_good.fnP qiL qkG qiJ qeK 2 8 (by kernel_rfl) (fun x=>by kernel_rfl) qlQ
noncomputable def cRE172:Ctx:=cRE171.addPlain 10 (plainT qeq qhX qf0 qp)
theorem cRE172_good:Av.Good cRE172:=cRE171_good.fnP qf0 qeC qhX qp 2 8 (by kernel_rfl) (fun x=>by kernel_rfl) qkM
noncomputable def cRE173:Ctx:=cRE172.addBody 78 (bodyT qcm qcy qdw qeI qbJ qds)
theorem cRE173_good:Av.Good cRE173:=cRE172_good.fnB qdw qe1 qbJ qds 3 8 (by kernel_rfl) (fun x y=>by kernel_rfl) qjU
noncomputable def cRE174:Ctx:=cRE173.addCut 114 5 qbv.toT.toLoop
theorem cRE174_good:Av.Good cRE174:=cRE173_good.cutN qbv 2 8 (by kernel_rfl) (fun _ _=>rfl) (fun x y K=>by kernel_rfl)
noncomputable def cRE175:Ctx:=cRE174.addBody 41 (bodyT qb8 qb7 qde qef qeS qeN)
theorem cRE175_good:Av.Good cRE175:=cRE174_good.fnB qde qgM qeS qeN 2 8 (by kernel_rfl) (fun x y=>by kernel_rfl) qjL
noncomputable def cRE176:Ctx:=cRE175.addBody 43 (bodyT qbQ qbS qc6 qdY qeg qd8)
theorem cRE176_good:Av.Good cRE176:=cRE175_good.fnB qc6 qgK qeg qd8 2 8 (by kernel_rfl) (fun x y=>by kernel_rfl) qjw
noncomputable def cRE177:Ctx:=cRE176.addBody 50 (bodyT qbB qbA qcZ qdG qbY qdW)
theorem cRE177_good:Av.Good cRE177:=cRE176_good.fnB qcZ qf3 qbY qdW 3 8 (by kernel_rfl) (fun x y=>by kernel_rfl) qji
noncomputable def cRE178:Ctx:=cRE177.addBody 51 (bodyT qbN qbV qc8 qd3 qec qea)
theorem cRE178_good:Av.Good cRE178:=cRE177_good.fnB qc8 qgJ qec qea 3 8 (by kernel_rfl) (fun x y=>by kernel_rfl) qjI
noncomputable def cRE179:Ctx:=cRE178.addBody 42 (evStep cRE178 drawOk 8 4 42 79 148)
theorem cRE179_good:Av.Good cRE179:=cRE178_good.addBody (step_ok cRE178_good (by kernel_rfl) 8 4) (by kernel_rfl)
noncomputable def cRE180:Ctx:=cRE179.addBody 42 (bodyT qce qcg qdg qeb qbc qi)
theorem cRE180_good:Av.Good cRE180:=cRE179_good.fnB qdg qeO qbc qi 2 8 (by kernel_rfl) (fun x y=>by kernel_rfl) qjK
noncomputable def cRE181:Ctx:=cRE180.addLoop 48 2 qf9.toT.toLoop
theorem cRE181_good:Av.Good cRE181:=cRE180_good.loopN qf9 3 8 (by kernel_rfl) (fun _ _=>rfl) (fun x y s m K=>by kernel_rfl) (fun x y s s' K e=>by kernel_rfl)
noncomputable def cRE182:Ctx:=cRE181.addBody 48 (bodyT qbR qbT qc5 qd5 qc7 qed)
theorem cRE182_good:Av.Good cRE182:=cRE181_good.fnB qc5 qd9 qc7 qed 3 8 (by kernel_rfl) (fun x y=>by kernel_rfl) qjv
noncomputable def cRE183:Ctx:=cRE182.addPlain 133 (plainT qiP qgd qjN qht)
theorem cRE183_good:Av.Good cRE183:=cRE182_good.fnP qjN qgl qgd qht 2 8 (by kernel_rfl) (fun x=>by kernel_rfl) qmj
noncomputable def cRE184:Ctx:=cRE183.addPlain 109 (plainT qft qjd qg9 qbZ)
theorem cRE184_good:Av.Good cRE184:=cRE183_good.fnP qg9 qhf qjd qbZ 2 8 (by kernel_rfl) (fun x=>by kernel_rfl) qlz
noncomputable def cRE185:Ctx:=cRE184.addPlain 111 (plainT qh6 qb6 qjk qx)
theorem cRE185_good:Av.Good cRE185:=cRE184_good.fnP qjk qfn qb6 qx 2 8 (by kernel_rfl) (fun x=>by kernel_rfl) ql5
noncomputable def cRE186:Ctx:=cRE185.addPlain 72 (plainT qfI qi0 qg8 qM)
theorem cRE186_good:Av.Good cRE186:=cRE185_good.fnP qg8 qej qi0 qM 3 8 (by kernel_rfl) (fun x=>by kernel_rfl) qly
noncomputable def cRE187:Ctx:=cRE186.addPlain 73 (plainT qfF qiZ qhc qq)
theorem cRE187_good:Av.Good cRE187:=cRE186_good.fnP qhc qhh qiZ qq 2 20 (by kernel_rfl) (fun x=>by kernel_rfl) qlp
noncomputable def cRE188:Ctx:=cRE187.addLoop 75 7 qeF.toT.toLoop
theorem cRE188_good:Av.Good cRE188:=cRE187_good.loopN qeF 3 8 (by kernel_rfl) (fun _ _=>rfl) (fun x y s m K=>by kernel_rfl) (fun x y s s' K e=>by kernel_rfl)
noncomputable def cRE189:Ctx:=cRE188.addPlain 75 (plainT qfA qgZ qhj qK)
theorem cRE189_good:Av.Good cRE189:=cRE188_good.fnP qhj qg2 qgZ qK 4 8 (by kernel_rfl) (fun x=>by kernel_rfl) qlr
noncomputable def cRE190:Ctx:=cRE189.addCut 21 12 qdE.toT.toLoop
theorem cRE190_good:Av.Good cRE190:=cRE189_good.cutN qdE 6 12 (by kernel_rfl) (fun _ _=>rfl) (fun x y K=>by kernel_rfl)
noncomputable def cRE191:Ctx:=cRE190.addPlain 21 (plainT qfE qi2 qhk qI)
theorem cRE191_good:Av.Good cRE191:=cRE190_good.fnP qhk qjc qi2 qI 6 12 (by kernel_rfl) (fun x=>by kernel_rfl) qls
noncomputable def cRE192:Ctx:=cRE191.addPlain 104 (plainT qge qd2 qhV qd4)
theorem cRE192_good:Av.Good cRE192:=cRE191_good.fnP qhV qgo qd2 qd4 2 8 (by kernel_rfl) (fun x=>by kernel_rfl) qlN
noncomputable def cRE193:Ctx:=cRE192.addPlain 142 (plainT qgn qjG qig qdl)
theorem cRE193_good:Av.Good cRE193:=cRE192_good.fnP qig qe8 qjG qdl 2 8 (by kernel_rfl) (fun x=>by kernel_rfl) qlG
noncomputable def cRE194:Ctx:=cRE193.addPlain 124 (plainT qhB qkm qjq qcB)
theorem cRE194_good:Av.Good cRE194:=cRE193_good.fnP qjq qgD qkm qcB 2 8 (by kernel_rfl) (fun x=>by kernel_rfl) ql4
noncomputable def cRE195:Ctx:=cRE194.addLoop 67 3 qgU.toT.toLoop
theorem cRE195_good:Av.Good cRE195:=cRE194_good.loopN qgU 2 8 (by kernel_rfl) (fun _ _=>rfl) (fun x y s m K=>by kernel_rfl) (fun x y s s' K e=>by kernel_rfl)
noncomputable def cRE196:Ctx:=cRE195.addPlain 67 (plainT qiT qff qjO qeB)
theorem cRE196_good:Av.Good cRE196:=cRE195_good.fnP qjO qiS qff qeB 2 8 (by kernel_rfl) (fun x=>by kernel_rfl) qmh
noncomputable def cRE197:Ctx:=cRE196.addLoop 101 3 qcf.toT.toLoop
theorem cRE197_good:Av.Good cRE197:=cRE196_good.loopN qcf 2 8 (by kernel_rfl) (fun _ _=>rfl) (fun x y s m K=>by kernel_rfl) (fun x y s s' K e=>by kernel_rfl)
noncomputable def cRE198:Ctx:=cRE197.addLoop 99 2 qca.toT.toLoop
theorem cRE198_good:Av.Good cRE198:=cRE197_good.loopN qca 2 8 (by kernel_rfl) (fun _ _=>rfl) (fun x y s m K=>by kernel_rfl) (fun x y s s' K e=>by kernel_rfl)
noncomputable def cRE199:Ctx:=cRE198.addLoop 99 8 qcb.toT.toLoop
theorem cRE199_good:Av.Good cRE199:=cRE198_good.loopN qcb 2 8 (by kernel_rfl) (fun _ _=>rfl) (fun x y s m K=>by kernel_rfl) (fun x y s s' K e=>by kernel_rfl)
noncomputable def cRE1100:Ctx:=cRE199.addLoop 100 2 qch.toT.toLoop
theorem cRE1100_good:Av.Good cRE1100:=cRE199_good.loopN qch 2 8 (by kernel_rfl) (fun _ _=>rfl) (fun x y s m K=>by kernel_rfl) (fun x y s s' K e=>by kernel_rfl)
noncomputable def cRE1101:Ctx:=cRE1100.addLoop 100 11 qbX.toT.toLoop
theorem cRE1101_good:Av.Good cRE1101:=cRE1100_good.loopN qbX 2 8 (by kernel_rfl) (fun _ _=>rfl) (fun x y s m K=>by kernel_rfl) (fun x y s s' K e=>by kernel_rfl)
noncomputable def cRE1102:Ctx:=cRE1101.addBody 70 body_WriteString
theorem cRE1102_good:Av.Good cRE1102:=cRE1101_good.addBody write_body (by kernel_rfl)
noncomputable def cRE1103:Ctx:=cRE1102.addBody 71 body_String
theorem cRE1103_good:Av.Good cRE1103:=cRE1102_good.addBody string_body (by kernel_rfl)
noncomputable def cRE1104:Ctx:=cRE1103.addPlain 68 snap_asm_assembler_offset
theorem cRE1104_good:Av.Good cRE1104:=cRE1103_good.addSnap offset_plain (by kernel_rfl) offset_snap
noncomputable def cRE1105:Ctx:=cRE1104.addBody 99 (bodyT qcn qcp qdr qeJ qbH qa)
theorem cRE1105_good:Av.Good cRE1105:=cRE1104_good.fnB qdr qcE qbH qa 3 8 (by kernel_rfl) (fun x y=>by kernel_rfl) qjV
noncomputable def cRE1106:Ctx:=cRE1105.addBody 100 (bodyT qck qcj qdq qeH qbC qf)
theorem cRE1106_good:Av.Good cRE1106:=cRE1105_good.fnB qdq qcJ qbC qf 3 8 (by kernel_rfl) (fun x y=>by kernel_rfl) qj0
noncomputable def cRE1107:Ctx:=cRE1106.addBody 101 (bodyT qcv qcu qdA qeQ qbM qC)
theorem cRE1107_good:Av.Good cRE1107:=cRE1106_good.fnB qdA qbE qbM qC 3 8 (by kernel_rfl) (fun x y=>by kernel_rfl) qjR
noncomputable def cRE1108:Ctx:=cRE1107.addBody 65 (bodyT qct qcr qdv qeL qbI qbF)
theorem cRE1108_good:Av.Good cRE1108:=cRE1107_good.fnB qdv qbK qbI qbF 4 8 (by kernel_rfl) (fun x y=>by kernel_rfl) qjS
noncomputable def cRE1109:Ctx:=cRE1108.addLoop 66 4 qb9.toT.toLoop
theorem cRE1109_good:Av.Good cRE1109:=cRE1108_good.loopN qb9 2 8 (by kernel_rfl) (fun _ _=>rfl) (fun x y s m K=>by kernel_rfl) (fun x y s s' K e=>by kernel_rfl)
noncomputable def cRE1110:Ctx:=cRE1109.addBody 66 (bodyT qcq qcs qdo qeR qbD qv)
theorem cRE1110_good:Av.Good cRE1110:=cRE1109_good.fnB qdo qbL qbD qv 3 8 (by kernel_rfl) (fun x y=>by kernel_rfl) qjY
noncomputable def cRE1111:Ctx:=cRE1110.addLoop 38 5 qdX.toT.toLoop
theorem cRE1111_good:Av.Good cRE1111:=cRE1110_good.loopN qdX 3 8 (by kernel_rfl) (fun _ _=>rfl) (fun x y s m K=>by kernel_rfl) (fun x y s s' K e=>by kernel_rfl)
noncomputable def cRE1112:Ctx:=cRE1111.addLoop 38 10 qdF.toT.toLoop
theorem cRE1112_good:Av.Good cRE1112:=cRE1111_good.loopN qdF 3 8 (by kernel_rfl) (fun _ _=>rfl) (fun x y s m K=>by kernel_rfl) (fun x y s s' K e=>by kernel_rfl)
noncomputable def cRE1113:Ctx:=cRE1112.addPlain 38 (plainT qeV qdb qgu q9)
theorem cRE1113_good:Av.Good cRE1113:=cRE1112_good.fnP qgu qcL qdb q9 3 8 (by kernel_rfl) (fun x=>by kernel_rfl) qk7
noncomputable def cRE1114:Ctx:=cRE1113.addPlain 32 (plainT qku qjH qkx qjx)
theorem cRE1114_good:Av.Good cRE1114:=cRE1113_good.fnP qkx qky qjH qjx 3 8 (by kernel_rfl) (fun x=>by kernel_rfl) qlH
noncomputable def cRE1115:Ctx:=cRE1114.addPlain 88 (plainT qfc qis qkd qgw)
theorem cRE1115_good:Av.Good cRE1115:=cRE1114_good.fnP qkd qiw qis qgw 3 8 (by kernel_rfl) (fun x=>by kernel_rfl) qlb
noncomputable def cRE1116:Ctx:=cRE1115.addPlain 45 (plainT qe4 qiy qke qcF)
theorem cRE1116_good:Av.Good cRE1116:=cRE1115_good.fnP qke qiu qiy qcF 8 12 (by kernel_rfl) (fun x=>by kernel_rfl) qkW
noncomputable def cRE1117:Ctx:=cRE1116.addPlain 55 (plainT qgS qjW qkD qj2)
theorem cRE1117_good:Av.Good cRE1117:=cRE1116_good.fnP qkD qkE qjW qj2 8 12 (by kernel_rfl) (fun x=>by kernel_rfl) qlS
noncomputable def cRE1118:Ctx:=cRE1117.addLoop 52 2 qbu.toT.toLoop
theorem cRE1118_good:Av.Good cRE1118:=cRE1117_good.loopN qbu 3 8 (by kernel_rfl) (fun _ _=>rfl) (fun x y s m K=>by kernel_rfl) (fun x y s s' K e=>by kernel_rfl)
noncomputable def cRE1119:Ctx:=cRE1118.addPlain 52 (plainT qe2 qb3 qj8 qJ)
theorem cRE1119_good:Av.Good cRE1119:=cRE1118_good.fnP qj8 qit qb3 qJ 3 8 (by kernel_rfl) (fun x=>by kernel_rfl) qk3
noncomputable def cRE1120:Ctx:=cRE1119.addPlain 22 (plainT qev qdx qfX qcV)
theorem cRE1120_good:Av.Good cRE1120:=cRE1119_good.fnP qfX qdn qdx qcV 3 8 (by kernel_rfl) (fun x=>by kernel_rfl) qkQ
noncomputable def cRE1121:Ctx:=cRE1120.addPlain 24 (plainT qf8 qjz qhx qjJ)
theorem cRE1121_good:Av.Good cRE1121:=cRE1120_good.fnP qhx qhI qjz qjJ 4 8 (by kernel_rfl) (fun x=>by kernel_rfl) qlE
noncomputable def cRE1122:Ctx:=cRE1121.addPlain 23 (plainT qep qif qf1 qcW)
theorem cRE1122_good:Av.Good cRE1122:=cRE1121_good.fnP qf1 qen qif qcW 4 8 (by kernel_rfl) (fun x=>by kernel_rfl) qkN
noncomputable def cRE1123:Ctx:=cRE1122.addPlain 29 (plainT qe9 qix qgq qiz)
theorem cRE1123_good:Av.Good cRE1123:=cRE1122_good.fnP qgq qgB qix qiz 3 8 (by kernel_rfl) (fun x=>by kernel_rfl) qk0
noncomputable def cRE1124:Ctx:=cRE1123.addPlain 19 (plainT qcT qfj qii qfo)
theorem cRE1124_good:Av.Good cRE1124:=cRE1123_good.fnP qii qhG qfj qfo 9 12 (by kernel_rfl) (fun x=>by kernel_rfl) qkb
noncomputable def cRE1125:Ctx:=cRE1124.addPlain 26 (plainT qcQ qfk qh3 qfr)
theorem cRE1125_good:Av.Good cRE1125:=cRE1124_good.fnP qh3 qh2 qfk qfr 9 12 (by kernel_rfl) (fun x=>by kernel_rfl) qj9
noncomputable def cRE1126:Ctx:=cRE1125.addLoop 39 6 qdz.toT.toLoop
theorem cRE1126_good:Av.Good cRE1126:=cRE1125_good.loopN qdz 4 8 (by kernel_rfl) (fun _ _=>rfl) (fun x y s m K=>by kernel_rfl) (fun x y s s' K e=>by kernel_rfl)
noncomputable def cRE1127:Ctx:=cRE1126.addPlain 39 (plainT qfu qfy qhb qc1)
theorem cRE1127_good:Av.Good cRE1127:=cRE1126_good.fnP qhb qi5 qfy qc1 4 8 (by kernel_rfl) (fun x=>by kernel_rfl) qlq
noncomputable def cRE1128:Ctx:=cRE1127.addOwn 46
theorem cRE1128_good:Av.Good cRE1128:=cRE1127_good.addOwn 46
noncomputable def cRE1129:Ctx:=cRE1128.addLoop 20 3 qbz.toT.toLoop
theorem cRE1129_good:Av.Good cRE1129:=cRE1128_good.loopN qbz 4 8 (by kernel_rfl) (fun _ _=>rfl) (fun x y s m K=>by kernel_rfl) (fun x y s s' K e=>by kernel_rfl)
noncomputable def cRE1130:Ctx:=cRE1129.addLoop 47 4 qcl.toT.toLoop
theorem cRE1130_good:Av.Good cRE1130:=cRE1129_good.loopN qcl 3 8 (by kernel_rfl) (fun _ _=>rfl) (fun x y s m K=>by kernel_rfl) (fun x y s s' K e=>by kernel_rfl)
noncomputable def cRE1131:Ctx:=cRE1130.addPlain 47 (plainT qcR qbn qdM qP)
theorem cRE1131_good:Av.Good cRE1131:=cRE1130_good.fnP qdM qb4 qbn qP 4 8 (by kernel_rfl) (fun x=>by kernel_rfl) qj7
noncomputable def cRE1132:Ctx:=cRE1131.addPlain 18 (plainT qdm qf7 qeG qbO)
theorem cRE1132_good:Av.Good cRE1132:=cRE1131_good.fnP qeG qes qf7 qbO 3 8 (by kernel_rfl) (fun x=>by kernel_rfl) qkt
noncomputable def cRE1133:Ctx:=cRE1132.addPlain 20 (plainT qcP qb0 qdJ qu)
theorem cRE1133_good:Av.Good cRE1133:=cRE1132_good.fnP qdJ qb2 qb0 qu 4 8 (by kernel_rfl) (fun x=>by kernel_rfl) qka
noncomputable def cRE1:Ctx:=cRE1133
theorem cRE1_good:Av.Good cRE1:=cRE1133_good
end Go.Proofs.YtealbjacocgjcaaGreat
end
section
namespace Go.Av
open Go
def FinQ (E:Env) (mo mr N:Nat) (q:IO3):Prop:=∃k c j' s',k≤N∧goN E k q=(k,c,true,j',s')∧Wp mo mr s'.2.2
theorem fin_mono {E:Env} {mo mr N N':Nat} {q:IO3} (h:FinQ E mo mr N q) (hn:N≤N'):FinQ E mo mr N' q:=by
 obtain⟨k,c,j',s',h1,h2,h3⟩:=h
 exact⟨k,c,j',s',by omega,h2,h3⟩
theorem fin_go {E:Env} {mo mr N k c j j':Nat} {s s':IS} (g:GoTo E k c j s j' s') (h:FinQ E mo mr N (false,j',s')):FinQ E mo mr (k+N) (false,j,s):=by
 obtain⟨k2,c2,j2,s2,h1,h2,h3⟩:=h
 refine⟨k+k2,c+c2,j2,s2,by omega,?_,h3⟩
 unfold GoTo at g
 rw[goN_add,g,h2]
theorem fin_ends {E:Env} {mo mr k c j j':Nat} {s s':IS} (g:Ends E k c j s j' s') (h:Wp mo mr s'.2.2):FinQ E mo mr k (false,j,s):=⟨k,c,j',s',Nat.le_refl _,g,h⟩
section
variable {E:Env} {mo mr:Nat} (H:HandAt E mo mr)
include H
theorem fin_h (s:IS):FinQ E mo mr (hSteps mo mr) (false,E.h,s):=by
 obtain⟨s',g,w,_⟩:=h_run H s
 exact fin_ends g w
theorem fin_100 (s:IS) (hw:Wp mo mr s.2.2):FinQ E mo mr 6 (false,E.h+100,s):=by
 obtain⟨s',g,w⟩:=h_end H s
 exact fin_ends g (by rw[w];exact wp_upd H hw _)
theorem fin_94 (s:IS) (z0:∀t,t<mo→s.2.2 (537001984+4*t)=0) (z1:∀t,t<mr→s.2.2 (537133056+4*t)=0) (z2:∀t,t<mr→s.2.2 (537395200+4*t)=0):FinQ E mo mr (12+hSteps mo mr) (false,E.h+94,s):=by
 by_cases hc:s.2.2 537919488=0
 ·obtain⟨s1,g1,w1⟩:=(h_look H s).1 hc
  exact fin_mono (fin_go g1 (fin_100 H s1 (by rw[w1];exact⟨z0,z1,z2,hc⟩))) (by omega)
 ·obtain⟨s1,g1⟩:=(h_look H s).2 hc
  exact fin_mono (fin_go g1 (fin_h H s1)) (by omega)
def lSteps (mo mr:Nat):Nat:=15*mo+30*mr+15
theorem fin_46 (s:IS):FinQ E mo mr (lSteps mo mr+12+hSteps mo mr) (false,E.h+46,s):=by
 obtain⟨k,j',s',h1,g,w,hor⟩:=(h_looks H s).2
 have hk:k≤lSteps mo mr:=by unfold lSteps;omega
 rcases hor with rfl |⟨rfl,z0,z1,z2⟩
 ·exact fin_mono (fin_go g (fin_h H s')) (by omega)
 ·exact fin_mono (fin_go g (fin_94 H s' (by rw[w];exact z0) (by rw[w];exact z1) (by rw[w];exact z2))) (by omega)
theorem fin_wl {p:Nat} {base n:Int} {m N:Nat} (h:WLoop E p base n) (hn:wn n≤65536) (hb:wn base % 65536=0) (hm:wn n=4*m) (hN:hSteps mo mr≤N) (nx:∀s,FinQ E mo mr N (false,p+14,s)) (s:IS):FinQ E mo mr (13*m+4+N) (false,p+1,s):=by
 obtain⟨k,j',s',h1,g,hor⟩:=wl_any h hn hb m s (by omega)
 rcases hor with rfl |rfl
 ·exact fin_mono (fin_go g (nx s')) (by omega)
 ·exact fin_mono (fin_go g (fin_mono (fin_h H s') hN)) (by omega)
theorem fin_w2 (s:IS):FinQ E mo mr (13*mr+4+(lSteps mo mr+12+hSteps mo mr)) (false,E.h+33,s):=by
 obtain⟨_,n2,_,n4⟩:=h_n H
 exact fin_wl H H.w2 (by omega) (by decide) n2 (by omega) (fun s=>fin_46 H s) s
theorem fin_32 (s:IS):FinQ E mo mr (13*mr+5+(lSteps mo mr+12+hSteps mo mr)) (false,E.h+32,s) :=
 fin_mono (fin_go (first_step H.w2.i0 H.w2.hb s) (fin_w2 H _)) (by omega)
theorem fin_w1 (s:IS):FinQ E mo mr (13*mr+4+(13*mr+5+(lSteps mo mr+12+hSteps mo mr))) (false,E.h+19,s):=by
 obtain⟨_,n2,_,n4⟩:=h_n H
 exact fin_wl H H.w1 (by omega) (by decide) n2 (by omega) (fun s=>fin_32 H s) s
theorem fin_18 (s:IS):FinQ E mo mr (13*mr+5+(13*mr+5+(lSteps mo mr+12+hSteps mo mr))) (false,E.h+18,s) :=
 fin_mono (fin_go (first_step H.w1.i0 H.w1.hb s) (fin_w1 H _)) (by omega)
theorem fin_w0 (s:IS):FinQ E mo mr (13*mo+4+(13*mr+5+(13*mr+5+(lSteps mo mr+12+hSteps mo mr)))) (false,E.h+5,s):=by
 obtain⟨n1,_,n3,_⟩:=h_n H
 exact fin_wl H H.w0 (by omega) (by decide) n1 (by omega) (fun s=>fin_18 H s) s
theorem fin_4 (s:IS):FinQ E mo mr (13*mo+5+(13*mr+5+(13*mr+5+(lSteps mo mr+12+hSteps mo mr)))) (false,E.h+4,s) :=
 fin_mono (fin_go (first_step H.w0.i0 H.w0.hb s) (fin_w0 H _)) (by omega)
def wSteps (mo mr:Nat):Nat:=14+(13*mo+5+(13*mr+5+(13*mr+5+(lSteps mo mr+12+hSteps mo mr))))
omit H in
theorem fin_stop {n d:Nat} {N:Nat} {stop:Nat→Bool} (hh:stop E.h=true) (hc:cfTo E stop n d=true) (hs:∀j,stop j=true→∀s,FinQ E mo mr N (false,j,s)) (s:IS):FinQ E mo mr (n+N) (false,d,s):=by
 obtain⟨k,j',s',h1,g,h3⟩:=cf_ok hh n d s hc
 exact fin_mono (fin_go g (hs j' h3 s')) (by omega)
theorem fin_ll {p:Nat} {base n:Int} {m N:Nat} (h:LLoop E p base n) (hn:wn n≤65536) (hb:wn base % 65536=0) (hm:wn n=4*m) (hN:hSteps mo mr≤N) (nx:∀s,Wp mo mr s.2.2→FinQ E mo mr N (false,p+16,s)) (s:IS) (hw:Wp mo mr s.2.2):FinQ E mo mr (15*m+4+N) (false,p+1,s):=by
 obtain⟨k,j',s',h1,g,e,hor⟩:=ll_any h hn hb m s (by omega)
 rcases hor with rfl |rfl
 ·exact fin_mono (fin_go g (nx s' (by rw[e];exact hw))) (by omega)
 ·exact fin_mono (fin_go g (fin_mono (fin_h H s') hN)) (by omega)
theorem fin_94w (s:IS) (hw:Wp mo mr s.2.2):FinQ E mo mr (12+hSteps mo mr) (false,E.h+94,s):=fin_94 H s hw.out hw.a hw.b
theorem fin_l2 (s:IS) (hw:Wp mo mr s.2.2):FinQ E mo mr (15*mr+4+(12+hSteps mo mr)) (false,E.h+79,s):=by
 obtain⟨_,n2,_,n4⟩:=h_n H
 exact fin_ll H H.l2 (by omega) (by decide) n2 (by omega) (fun s hw=>fin_94w H s hw) s hw
theorem fin_78 (s:IS) (hw:Wp mo mr s.2.2):FinQ E mo mr (15*mr+5+(12+hSteps mo mr)) (false,E.h+78,s) :=
 fin_mono (fin_go (first_step H.l2.i0 H.l2.hb s) (fin_l2 H _ hw)) (by omega)
theorem fin_l1 (s:IS) (hw:Wp mo mr s.2.2):FinQ E mo mr (15*mr+4+(15*mr+5+(12+hSteps mo mr))) (false,E.h+63,s):=by
 obtain⟨_,n2,_,n4⟩:=h_n H
 exact fin_ll H H.l1 (by omega) (by decide) n2 (by omega) (fun s hw=>fin_78 H s hw) s hw
theorem fin_62 (s:IS) (hw:Wp mo mr s.2.2):FinQ E mo mr (15*mr+5+(15*mr+5+(12+hSteps mo mr))) (false,E.h+62,s) :=
 fin_mono (fin_go (first_step H.l1.i0 H.l1.hb s) (fin_l1 H _ hw)) (by omega)
theorem fin_l0 (s:IS) (hw:Wp mo mr s.2.2):FinQ E mo mr (15*mo+4+(15*mr+5+(15*mr+5+(12+hSteps mo mr)))) (false,E.h+47,s):=by
 obtain⟨n1,_,n3,_⟩:=h_n H
 exact fin_ll H H.l0 (by omega) (by decide) n1 (by omega) (fun s hw=>fin_62 H s hw) s hw
omit H in
theorem fin_stopR {n d:Nat} {N:Nat} {stop:Nat→Bool} (hh:stop E.h=true) (hc:cfR E stop n d=true) (hs:∀j,stop j=true→∀s,Wp mo mr s.2.2→FinQ E mo mr N (false,j,s)) (s:IS) (hw:Wp mo mr s.2.2):FinQ E mo mr (n+N) (false,d,s):=by
 obtain⟨k,j',s',h1,g,h3,e⟩:=cfR_ok hh n d s hc
 exact fin_mono (fin_go g (hs j' h3 s' (by rw[e];exact hw))) (by omega)
def A5 (E:Env) (a:Nat):Prop:=E.okW a=false∨a=538968064
theorem fin_104 (s:IS) (hw:Wp mo mr s.2.2) (h5:A5 E (s.1 5)):FinQ E mo mr (2+hSteps mo mr) (false,E.h+104,s):=by
 rcases h5 with h5 |h5
 ·have g:GoTo E 1 0 (E.h+104) s E.h s:=by
   refine go_cons ?_ (by omega) (GoTo.refl _ _ _)
   rw[step_op H.e10,do_str,h5]
   rfl
  exact fin_mono (fin_go g (fin_h H s)) (by omega)
 ·have g:GoTo E 1 0 (E.h+104) s (E.h+105) (s.1,s.2.1,updW s.2.2 538968064 (s.1 0)):=by
   refine go_cons ?_ (by omega) (GoTo.refl _ _ _)
   rw[step_op H.e10,do_str,h5,h_status H]
   rfl
  have g2:Ends E 1 (bif E.h+105==E.h then 1 else 0) (E.h+105) (s.1,s.2.1,updW s.2.2 538968064 (s.1 0)) (E.h+105) (s.1,s.2.1,updW s.2.2 538968064 (s.1 0)):=end_one (by rw[step_op H.e11];rfl)
  exact fin_mono (fin_go g (fin_ends g2 (wp_upd H hw _))) (by omega)
theorem fin_103 (s:IS) (hw:Wp mo mr s.2.2) (h5:A5 E (s.1 5)):FinQ E mo mr (3+hSteps mo mr) (false,E.h+103,s):=by
 have g:GoTo E 1 0 (E.h+103) s (E.h+104) (stepR s.1 (insI 4 0 0 0 0 (hi false 195890093) 0),s.2):=by
  refine go_cons ?_ (by omega) (GoTo.refl _ _ _)
  rw[step_op H.e9]
  rfl
 have e:(stepR s.1 (insI 4 0 0 0 0 (hi false 195890093) 0)) 5=s.1 5:=updR_other s.1 (k:=0) (j:=5) (wn (vOf 4 (hi false 195890093) 0 (s.1 0) (s.1 0) (s.1 0) 0)) (by decide)
 refine fin_mono (fin_go g (fin_104 H _ hw ?_)) (by omega)
 show A5 E ((stepR s.1 (insI 4 0 0 0 0 (hi false 195890093) 0)) 5)
 rw[e]
 exact h5
theorem fin_102 (s:IS) (hw:Wp mo mr s.2.2) (h5:A5 E (s.1 5)):FinQ E mo mr (4+hSteps mo mr) (false,E.h+102,s):=by
 have g:GoTo E 1 0 (E.h+102) s (E.h+103) (updR s.1 0 (wn (lo false 195890093)),s.2):=by
  refine go_cons ?_ (by omega) (GoTo.refl _ _ _)
  rw[step_op H.e8]
  rfl
 have e:(updR s.1 0 (wn (lo false 195890093))) 5=s.1 5:=updR_other _ _ (by decide)
 refine fin_mono (fin_go g (fin_103 H _ hw ?_)) (by omega)
 show A5 E ((updR s.1 0 (wn (lo false 195890093))) 5)
 rw[e]
 exact h5
theorem fin_101 (s:IS) (hw:Wp mo mr s.2.2) (h5:s.1 5<4294967296∧A5 E (538968064+s.1 5 % 65536)):FinQ E mo mr (5+hSteps mo mr) (false,E.h+101,s):=by
 have g:GoTo E 1 0 (E.h+101) s (E.h+102) (updR s.1 5 (538968064+s.1 5 % 65536),s.2):=by
  refine go_cons ?_ (by omega) (GoTo.refl _ _ _)
  rw[step_op H.e7,do_movt _ _ _ _ _ h5.1]
  rfl
 refine fin_mono (fin_go g (fin_102 H _ hw ?_)) (by omega)
 show A5 E ((updR s.1 5 _) 5)
 rw[updR_same]
 exact h5.2
end
end Go.Av
end
section
namespace Go.Av
open Go
def farW (a:Nat):Bool:=a % 4 != 0||((decide (a<537001984)||decide (537067520≤a))&&((decide (a<537133056)||decide (537198592≤a))&&((decide (a<537395200)||decide (537460736≤a))&&(!inW 537919488 4 a&&!inW 538968064 4 a))))
theorem far_ok {o r n a:Nat} (hs:SzOk o r n) (h:farW a=true):(regW o r a).isSome=false:=by
 have ho:=hs.out
 have hr:=hs.rail
 unfold farW at h
 unfold regW
 cases hm:(a % 4 != 0)
 ·rw[hm,Bool.false_or] at h
  simp only[Bool.and_eq_true,Bool.or_eq_true,decide_eq_true_eq,Bool.not_eq_true'] at h
  obtain⟨h1,h2,h3,h4,h5⟩:=h
  rw[show inW 537001984 o a=false from decide_eq_false (by omega),show inW 537133056 r a=false from decide_eq_false (by omega),show inW 537395200 r a=false from decide_eq_false (by omega),h4,h5]
  rfl
 ·rfl
theorem far_flip:∀b,b<32→farW (538968064 ^^^ 2 ^ b)=true:=by decide
theorem far_low:∀b,b<16→farW (538968064+2 ^ b)=true:=by decide
theorem far_zero:farW 0=true:=rfl
theorem hit_reg (f:tFault.den) (s:IS) (k:Int):(hitI f s).1 k=s.1 k∨∃b,b<32∧(hitI f s).1 k=s.1 k ^^^ 2 ^ b:=by
 unfold hitI
 cases (f.1==(2:Int))
 ·cases (f.1==(3:Int))<;>exact .inl rfl
 ·by_cases e:k=f.2.2.1
  ·right
   refine⟨kk f.2.2.2.1,kk_lt _,?_⟩
   show updR s.1 f.2.2.1 (s.1 f.2.2.1 ^^^ 2 ^ kk f.2.2.2.1) k=_
   rw[e]
   exact updR_same s.1 f.2.2.1 _
  ·left
   exact updR_other s.1 (k:=f.2.2.1) (j:=k) _ e
theorem hit_mem (f:tFault.den) (s:IS):(hitI f s).2.2=s.2.2:=by
 unfold hitI
 cases (f.1==(2:Int))
 ·cases (f.1==(3:Int))<;>rfl
 ·rfl
theorem hit_sk (f:tFault.den) (s:IS) (h:(f.1==(1:Int))=true):hitI f s=s:=by
 have:f.1=(1:Int):=by simpa using h
 unfold hitI
 rw[this]
 rfl
theorem step_skip {E:Env} {j:Nat} {p:PI} (h:E.P[j]?=some p) (s:IS):stepI E true j s=(false,j+1,s):=by
 unfold stepI
 rw[h]
 rfl
section
variable {E:Env} {mo mr:Nat} (H:HandAt E mo mr)
include H
theorem h_look5 (s:IS) (hc:s.2.2 537919488=0):∃s',GoTo E 6 0 (E.h+94) s (E.h+100) s'∧s'.2.2=s.2.2∧s'.1 5=537919488:=by
 obtain⟨ρ1,e1,v1,_⟩:=word_at E 5 537919488 s
 have g1:=execL_go (j:=E.h+94) [insI 3 5 0 0 0 (lo false 537919488) 0,insI 4 5 0 0 0 (hi false 537919488) 0] _ _ (fun i hi=>by
  have hi:i<2:=hi
  have:i=0∨i=1:=by omega
  rcases this with rfl |rfl
  ·exact H.e0
  ·exact H.e1) (fun i _=>by omega) e1
 have r5:ρ1 5=537919488:=v1
 have a0:(updR (updR ρ1 0 0) 2 0) 0=0:=(updR_other _ _ (by decide)).trans (updR_same _ _ _)
 have a2:(updR (updR ρ1 0 0) 2 0) 2=0:=updR_same _ _ _
 have g2:GoTo E 4 0 (E.h+96) (ρ1,s.2) (E.h+100) (updR (updR ρ1 0 0) 2 0,cmpF 0 0,s.2.2):=by
  refine go_cons (j1:=E.h+97) (s1:=(updR ρ1 0 0,s.2)) ?_ (by omega) (go_cons (j1:=E.h+98) (s1:=(updR (updR ρ1 0 0) 2 0,s.2)) ?_ (by omega) (go_cons (j1:=E.h+99) (s1:=(updR (updR ρ1 0 0) 2 0,cmpF 0 0,s.2.2)) ?_ (by omega) (go_cons ?_ (by omega) (GoTo.refl _ _ _))))
  ·rw[step_op H.e2,do_ldr]
   show(bif E.okR (ρ1 5) then(false,E.h+96+1,updR ρ1 0 (s.2.2 (ρ1 5)),s.2) else _)=_
   rw[r5,(h_commit H).2,hc]
   rfl
  ·rw[step_op H.e3]
   rfl
  ·rw[step_op H.e4,do_cmp]
   show(false,E.h+98+1,updR (updR ρ1 0 0) 2 0,cmpF ((updR (updR ρ1 0 0) 2 0) 0) ((updR (updR ρ1 0 0) 2 0) 2),s.2.2)=_
   rw[a0,a2]
  ·rw[step_br H.e5]
   show(bif goesF (cmpF 0 0) 25 1 then _ else _)=_
   rw[goes_neF]
   rfl
 refine⟨_,g1.trans g2,rfl,?_⟩
 show(updR (updR ρ1 0 0) 2 0) 5=_
 exact((updR_other _ _ (by decide)).trans (updR_other _ _ (by decide))).trans r5
theorem a5_far {a:Nat} (h:farW a=true):A5 E a:=by
 left
 exact far_ok H.sz h
theorem last_100 (f:tFault.den) (s:IS) (hw:Wp mo mr s.2.2) (h5:s.1 5=537919488):FinQ E mo mr (5+hSteps mo mr) (stepI E (f.1==(1:Int)) (E.h+100) (hitI f s)):=by
 cases hk:(f.1==(1:Int))
 ·rw[step_op H.e6]
  refine fin_101 H (updR (hitI f s).1 5 (wn (lo false 538968064)),(hitI f s).2) (by rw[hit_mem];exact hw) ?_
  have e:(updR (hitI f s).1 5 (wn (lo false 538968064))) 5=0:=updR_same _ _ _
  show(updR (hitI f s).1 5 (wn (lo false 538968064))) 5<_∧A5 E (538968064+(updR (hitI f s).1 5 (wn (lo false 538968064))) 5 % 65536)
  rw[e]
  exact⟨by omega,.inr rfl⟩
 ·rw[step_skip H.e6,hit_sk f s hk]
  refine fin_101 H s hw ?_
  rw[h5]
  exact⟨by omega,.inr rfl⟩
theorem last_101 (f:tFault.den) (s:IS) (hw:Wp mo mr s.2.2) (h5:s.1 5=0):FinQ E mo mr (4+hSteps mo mr) (stepI E (f.1==(1:Int)) (E.h+101) (hitI f s)):=by
 cases hk:(f.1==(1:Int))
 ·have hb:(hitI f s).1 5<4294967296∧A5 E (538968064+(hitI f s).1 5 % 65536):=by
   rcases hit_reg f s 5 with e |⟨b,hb,e⟩
   ·rw[e,h5]
    exact⟨by omega,.inr rfl⟩
   ·rw[e,h5,Nat.zero_xor]
    refine⟨Nat.lt_of_lt_of_le (Nat.pow_lt_pow_right (by omega) hb) (Nat.le_refl _),?_⟩
    by_cases h16:b<16
    ·have:2 ^ b % 65536=2 ^ b:=Nat.mod_eq_of_lt (Nat.lt_of_lt_of_le (Nat.pow_lt_pow_right (by omega) h16) (Nat.le_refl _))
     rw[this]
     exact a5_far H (far_low b h16)
    ·have:2 ^ b % 65536=0:=by
      obtain⟨c,rfl⟩:∃c,b=16+c:=⟨b-16,by omega⟩
      rw[Nat.pow_add]
      exact Nat.mul_mod_right _ _
     rw[this]
     exact .inr rfl
  rw[step_op H.e7,do_movt _ _ _ _ _ hb.1]
  refine fin_102 H (updR (hitI f s).1 5 (wn (hi false 538968064) % 65536*65536+(hitI f s).1 5 % 65536),(hitI f s).2) (by rw[hit_mem];exact hw) ?_
  show A5 E ((updR (hitI f s).1 5 (wn (hi false 538968064) % 65536*65536+(hitI f s).1 5 % 65536)) 5)
  rw[updR_same]
  exact hb.2
 ·rw[step_skip H.e7,hit_sk f s hk]
  refine fin_102 H s hw ?_
  rw[h5]
  exact a5_far H far_zero
theorem hit_a5 (f:tFault.den) (s:IS) (h5:s.1 5=538968064):A5 E ((hitI f s).1 5):=by
 rcases hit_reg f s 5 with e |⟨b,hb,e⟩
 ·rw[e,h5]
  exact .inr rfl
 ·rw[e,h5]
  exact a5_far H (far_flip b hb)
theorem last_102 (f:tFault.den) (s:IS) (hw:Wp mo mr s.2.2) (h5:s.1 5=538968064):FinQ E mo mr (3+hSteps mo mr) (stepI E (f.1==(1:Int)) (E.h+102) (hitI f s)):=by
 have ha:=hit_a5 H f s h5
 cases hk:(f.1==(1:Int))
 ·rw[step_op H.e8]
  refine fin_103 H (updR (hitI f s).1 0 (wn (lo false 195890093)),(hitI f s).2) (by rw[hit_mem];exact hw) ?_
  show A5 E ((updR (hitI f s).1 0 (wn (lo false 195890093))) 5)
  rw[updR_other _ _ (by decide)]
  exact ha
 ·rw[step_skip H.e8]
  exact fin_103 H _ (by rw[hit_mem];exact hw) ha
theorem last_103 (f:tFault.den) (s:IS) (hw:Wp mo mr s.2.2) (h5:s.1 5=538968064):FinQ E mo mr (2+hSteps mo mr) (stepI E (f.1==(1:Int)) (E.h+103) (hitI f s)):=by
 have ha:=hit_a5 H f s h5
 cases hk:(f.1==(1:Int))
 ·rw[step_op H.e9]
  have e:(stepR (hitI f s).1 (insI 4 0 0 0 0 (hi false 195890093) 0)) 5=(hitI f s).1 5:=updR_other (hitI f s).1 (k:=0) (j:=5) (wn (vOf 4 (hi false 195890093) 0 ((hitI f s).1 0) ((hitI f s).1 0) ((hitI f s).1 0) 0)) (by decide)
  refine fin_104 H (stepR (hitI f s).1 (insI 4 0 0 0 0 (hi false 195890093) 0),(hitI f s).2) (by rw[hit_mem];exact hw) ?_
  show A5 E ((stepR (hitI f s).1 (insI 4 0 0 0 0 (hi false 195890093) 0)) 5)
  rw[e]
  exact ha
 ·rw[step_skip H.e9]
  exact fin_104 H _ (by rw[hit_mem];exact hw) ha
theorem fin_105 (s:IS) (hw:Wp mo mr s.2.2):FinQ E mo mr 1 (false,E.h+105,s) :=
 fin_ends (end_one (by rw[step_op H.e11];rfl)) hw
theorem last_104 (f:tFault.den) (s:IS) (hw:Wp mo mr s.2.2) (h5:s.1 5=538968064):FinQ E mo mr (1+hSteps mo mr) (stepI E (f.1==(1:Int)) (E.h+104) (hitI f s)):=by
 have ha:=hit_a5 H f s h5
 cases hk:(f.1==(1:Int))
 ·rw[step_op H.e10,do_str]
  rcases ha with ha |ha
  ·rw[ha]
   exact fin_mono (fin_h H _) (by omega)
  ·rw[ha,h_status H]
   exact fin_mono (fin_105 H ((hitI f s).1,(hitI f s).2.1,updW (hitI f s).2.2 538968064 ((hitI f s).1 0)) (wp_upd H (by rw[hit_mem];exact hw) _)) (by omega)
 ·rw[step_skip H.e10]
  exact fin_mono (fin_105 H _ (by rw[hit_mem];exact hw)) (by omega)
theorem last_105 (hE:E.P[E.h+106]?=some (.op (insI 2 0 0 0 0 0 0))) (f:tFault.den) (s:IS) (hw:Wp mo mr s.2.2):FinQ E mo mr 1 (stepI E (f.1==(1:Int)) (E.h+105) (hitI f s)):=by
 cases hk:(f.1==(1:Int))
 ·rw[step_op H.e11,do_bkpt]
  exact⟨0,0,_,_,Nat.zero_le _,rfl,by rw[hit_mem];exact hw⟩
 ·rw[step_skip H.e11]
  exact fin_ends (end_one (by rw[step_op hE];rfl)) (by rw[hit_mem];exact hw)
end
end Go.Av
end
section
namespace Go.Av
open Go
def notEnd (E:Env) (j:Nat):Bool:=match E.P[j]? with
 |some (.op i)=>!(i.1==2)
 |_=>true
theorem step_on {E:Env} {j:Nat} (h:notEnd E j=true) (sk:Bool) (s:IS):(stepI E sk j s).1=false:=by
 unfold notEnd at h
 unfold stepI
 cases hp:E.P[j]? with
 |none=>rfl
 |some p =>
  rw[hp] at h
  cases sk
  ·show(atI E j s p).1=false
   cases p with
   |op i =>
    have h:(i.1==(2:Int))=false:=by simpa using h
    show(doI E j i s).1=false
    unfold doI
    rw[h]
    cases (i.1==(19:Int))
    ·cases (i.1==(20:Int))
     ·cases (i.1==(23:Int))<;>rfl
     ·cases E.okW (s.1 i.2.2.1)<;>rfl
    ·cases E.okR (s.1 i.2.2.1)<;>rfl
   |br o c t =>
    show(bif goesF s.2.1 o c then(false,t,s) else(false,j+1,s)).1=false
    cases goesF s.2.1 o c<;>rfl
  ·rfl
theorem step_part {E:Env} {f:Nat→Bool} {j:Nat} (h1:notEnd E j=true) (h2:sucIn E f j=true) (h3:f (j+1)=true) (h4:f E.h=true) (sk:Bool) (s:IS):∃j' s',stepI E sk j s=(false,j',s')∧f j'=true:=by
 cases sk
 ·refine⟨(stepI E false j s).2.1,(stepI E false j s).2.2,?_,suc_ok h2 s (step_on h1 false s)⟩
  have:=step_on h1 false s
  generalize stepI E false j s=q at *
  obtain⟨b,j',s'⟩:=q
  cases this
  rfl
 ·unfold stepI
  cases hp:E.P[j]? with
  |none=>exact⟨_,_,rfl,h4⟩
  |some p=>exact⟨_,_,rfl,h3⟩
section
variable (mo mr n:Nat)
def hE:Env:=handE (4*mo) (4*mr) n true
def stopW (j:Nat):Bool:=j==0||(j==4||(j==5||(j==18||(j==19||(j==32||(j==33||j==46))))))
def stopL (j:Nat):Bool:=j==0||(j==46||(j==47||(j==62||(j==63||(j==78||(j==79||(j==94||j==100)))))))
theorem chk_W:((List.range 47).all fun j=>cfTo (hE mo mr n) stopW 14 j)=true:=by kernel_rfl
theorem chk_L:((List.range' 46 55).all fun j=>cfR (hE mo mr n) stopL 16 j)=true:=by kernel_rfl
def inB (a b j:Nat):Bool:=Nat.ble a j&&Nat.ble (j+1) b
theorem chk_1:((List.range 46).all fun j=>notEnd (hE mo mr n) j&&sucIn (hE mo mr n) (inB 0 47) j)=true:=by kernel_rfl
theorem chk_2:((List.range' 1 45).all fun j=>sucIn (hE mo mr n) (fun x=>inB 1 46 x||(x==46||x==0)) j)=true:=by kernel_rfl
theorem chk_3:((List.range' 46 61).all fun j=>sucIn (hE mo mr n) (fun x=>inB 47 107 x||x==0) j)=true:=by kernel_rfl
theorem chk_4:((List.range' 46 54).all fun j=>notEnd (hE mo mr n) j&&(noStr (hE mo mr n) j&&sucIn (hE mo mr n) (fun x=>inB 46 100 x||(x==100||x==0)) j))=true:=by kernel_rfl
theorem chk_5:((List.range' 100 7).all fun j=>sucIn (hE mo mr n) (fun x=>inB 101 107 x||x==0) j)=true:=by kernel_rfl
theorem chk_6:(hE mo mr n).P[106]?=some (.op (insI 2 0 0 0 0 0 0)):=by kernel_rfl
theorem in_range' {f:Nat→Bool} {a m:Nat} (h:(List.range' a m).all f=true) {j:Nat} (h1:a≤j) (h2:j<a+m):f j=true:=List.all_eq_true.1 h j (List.mem_range'_1.2 ⟨h1,h2⟩)
theorem in_B {a b j:Nat}:inB a b j=true↔a≤j∧j<b:=by
 unfold inB
 rw[Bool.and_eq_true,Nat.ble_eq,Nat.ble_eq]
 omega
variable {mo mr n}
variable (hs:SzOk (4*mo) (4*mr) n)
include hs
theorem hE_at:HandAt (hE mo mr n) mo mr:=hand_at mo mr n true hs
theorem fin_W (j:Nat) (hj:j≤46) (s:IS):FinQ (hE mo mr n) mo mr (wSteps mo mr) (false,j,s):=by
 have H:=hE_at hs
 have hc:cfTo (hE mo mr n) stopW 14 j=true:=List.all_eq_true.1 (chk_W mo mr n) j (List.mem_range.2 (by omega))
 refine fin_mono (fin_stop (n:=14) (N:=wSteps mo mr-14) (stop:=stopW) rfl hc (fun j hj s=>?_) s) (by unfold wSteps;omega)
 unfold stopW at hj
 simp only[Bool.or_eq_true,beq_iff_eq] at hj
 rcases hj with rfl |rfl |rfl |rfl |rfl |rfl |rfl |rfl
 ·exact fin_mono (fin_h H s) (by unfold wSteps;omega)
 ·exact fin_mono (fin_4 H s) (by unfold wSteps;omega)
 ·exact fin_mono (fin_w0 H s) (by unfold wSteps;omega)
 ·exact fin_mono (fin_18 H s) (by unfold wSteps;omega)
 ·exact fin_mono (fin_w1 H s) (by unfold wSteps;omega)
 ·exact fin_mono (fin_32 H s) (by unfold wSteps;omega)
 ·exact fin_mono (fin_w2 H s) (by unfold wSteps;omega)
 ·exact fin_mono (fin_46 H s) (by unfold wSteps;omega)
theorem fin_L (j:Nat) (h1:46≤j) (h2:j≤100) (s:IS) (hw:Wp mo mr s.2.2):FinQ (hE mo mr n) mo mr (wSteps mo mr+16) (false,j,s):=by
 have H:=hE_at hs
 have hc:cfR (hE mo mr n) stopL 16 j=true:=in_range' (chk_L mo mr n) h1 (by omega)
 refine fin_mono (fin_stopR (n:=16) (N:=wSteps mo mr) (stop:=stopL) rfl hc (fun j hj s hw=>?_) s hw) (by omega)
 unfold stopL at hj
 simp only[Bool.or_eq_true,beq_iff_eq] at hj
 rcases hj with rfl |rfl |rfl |rfl |rfl |rfl |rfl |rfl |rfl
 ·exact fin_mono (fin_h H s) (by unfold wSteps;omega)
 ·exact fin_mono (fin_46 H s) (by unfold wSteps;omega)
 ·exact fin_mono (fin_l0 H s hw) (by unfold wSteps lSteps;omega)
 ·exact fin_mono (fin_62 H s hw) (by unfold wSteps lSteps;omega)
 ·exact fin_mono (fin_l1 H s hw) (by unfold wSteps lSteps;omega)
 ·exact fin_mono (fin_78 H s hw) (by unfold wSteps lSteps;omega)
 ·exact fin_mono (fin_l2 H s hw) (by unfold wSteps lSteps;omega)
 ·exact fin_mono (fin_94w H s hw) (by unfold wSteps lSteps;omega)
 ·exact fin_mono (fin_100 H s hw) (by unfold wSteps;omega)
theorem fault_W (f:tFault.den) (j:Nat) (hj:j<46) (s:IS):FinQ (hE mo mr n) mo mr (wSteps mo mr+16) (stepI (hE mo mr n) (f.1==(1:Int)) j (hitI f s)):=by
 have hc:=List.all_eq_true.1 (chk_1 mo mr n) j (List.mem_range.2 hj)
 rw[Bool.and_eq_true] at hc
 obtain⟨j',s',e,hj'⟩:=step_part hc.1 hc.2 (in_B.2 ⟨by omega,by omega⟩) (in_B.2 ⟨by omega,by show 0<47;omega⟩) (f.1==(1:Int)) (hitI f s)
 rw[e]
 have:=in_B.1 hj'
 exact fin_mono (fin_W hs j' (by omega) s') (by omega)
theorem fault_L (f:tFault.den) (j:Nat) (h1:46≤j) (h2:j<100) (s:IS) (hw:Wp mo mr s.2.2):FinQ (hE mo mr n) mo mr (wSteps mo mr+16) (stepI (hE mo mr n) (f.1==(1:Int)) j (hitI f s)):=by
 have H:=hE_at hs
 have hc:=in_range' (chk_4 mo mr n) h1 (show j<46+54 by omega)
 simp only[Bool.and_eq_true] at hc
 obtain⟨c1,c2,c3⟩:=hc
 obtain⟨j',s',e,hj'⟩:=step_part c1 c3 (by
  rw[Bool.or_eq_true,Bool.or_eq_true,beq_iff_eq]
  by_cases hh:j+1<100
  ·exact .inl (in_B.2 ⟨by omega,hh⟩)
  ·exact .inr (.inl (by omega))) (by rw[Bool.or_eq_true,Bool.or_eq_true];exact .inr (.inr rfl)) (f.1==(1:Int)) (hitI f s)
 have hm:=step_mem c2 (f.1==(1:Int)) (hitI f s)
 rw[e] at hm ⊢
 have hme:Wp mo mr s'.2.2:=by
  rw[(show s'.2.2=(hitI f s).2.2 from hm).trans (hit_mem f s)]
  exact hw
 simp only[Bool.or_eq_true,beq_iff_eq] at hj'
 rcases hj' with hj' |rfl |rfl
 ·have:=in_B.1 hj'
  exact fin_L hs j' (by omega) (by omega) s' hme
 ·exact fin_L hs 100 (by omega) (by omega) s' hme
 ·exact fin_mono (fin_h H s') (by unfold wSteps;omega)
theorem fault_fin (f:tFault.den) (s:IS) (T:Nat) (hT:T<hSteps mo mr):∃c jt st,GoTo (hE mo mr n) T c 0 s jt st∧FinQ (hE mo mr n) mo mr (wSteps mo mr+16) (stepI (hE mo mr n) (f.1==(1:Int)) jt (hitI f st)):=by
 have H:=hE_at hs
 have hh:(hE mo mr n).h=0:=rfl
 obtain⟨s1,g1,w1⟩:=h_begin H s
 obtain⟨s2,g2,z2⟩:=h_wipes H s1 (by rw[w1,updW_same])
 obtain⟨s3,g3,w3⟩:=(h_looks H s2).1 z2
 obtain⟨s4,g4,w4,r4⟩:=h_look5 H s3 (by rw[w3];exact z2.commit)
 have hW4:Wp mo mr s4.2.2:=by rw[w4,w3];exact z2
 have gW:=g1.trans g2
 have gL:=g3.trans g4
 rw[hh] at gW gL
 have gW:GoTo (hE mo mr n) (4+(13*mo+5+(13*mr+5)+(13*mr+5))) 1 0 s 46 s2:=gW
 have gL:GoTo (hE mo mr n) (15*mo+5+(15*mr+5)+(15*mr+5)+6) 0 46 s2 100 s4:=gL
 generalize hkW:4+(13*mo+5+(13*mr+5)+(13*mr+5))=kW at *
 generalize hkL:15*mo+5+(15*mr+5)+(15*mr+5)+6=kL at *
 have hsum:hSteps mo mr=kW+kL+6:=by unfold hSteps;omega
 have hR3:∀j,inB 47 107 j=true→sucIn (hE mo mr n) (fun x=>inB 47 107 x||x==(hE mo mr n).h) j=true:=fun j hj=>by
  have:=in_B.1 hj
  exact in_range' (chk_3 mo mr n) (by omega) (by omega)
 have hR5:∀j,inB 101 107 j=true→sucIn (hE mo mr n) (fun x=>inB 101 107 x||x==(hE mo mr n).h) j=true:=fun j hj=>by
  have:=in_B.1 hj
  exact in_range' (chk_5 mo mr n) (by omega) (by omega)
 rcases Nat.lt_or_ge T kW with hTW |hTW
 ·cases T with
  |zero=>exact⟨0,0,s,GoTo.refl _ _ _,fault_W hs f 0 (by omega) s⟩
  |succ t =>
   obtain⟨kW',rfl⟩:∃k,kW=k+1:=⟨kW-1,by omega⟩
   obtain⟨j1,s1',c1,e1,g1',ec⟩:=go_split gW
   have c0:c1=0:=by
    rw[hh] at ec
    simp only[beq_self_eq_true,cond_true] at ec
    omega
   subst c0
   have hj1:j1=1:=by
    have hb:=H.b0
    rw[hh] at hb
    rw[step_op hb] at e1
    exact(congrArg (fun q:IO3=>q.2.1) e1).symm
   subst hj1
   obtain⟨jt,st,g,hst,_⟩:=stay (S:=inB 1 46) (R:=inB 47 107) (e:=46) (fun j hj=>by
    have:=in_B.1 hj
    exact in_range' (chk_2 mo mr n) (by omega) (by omega)) hR3 rfl (in_range' (chk_3 mo mr n) (by omega) (by omega)) (by rw[hh];omega) kW' 1 s1' s2 rfl g1' t (by omega)
   have:=in_B.1 hst
   have h1:=(go_one e1).trans g
   rw[Nat.add_comm 1 t] at h1
   exact⟨_,jt,st,h1,fault_W hs f jt (by omega) st⟩
 ·obtain⟨t,rfl⟩:∃t,T=kW+t:=⟨T-kW,by omega⟩
  rcases Nat.lt_or_ge t kL with hTL |hTL
  ·obtain⟨jt,st,g,hst,hm⟩:=stay (S:=inB 46 100) (R:=inB 101 107) (e:=100) (fun j hj=>by
    have:=in_B.1 hj
    have:=in_range' (chk_4 mo mr n) (show 46≤j by omega) (by omega)
    simp only[Bool.and_eq_true] at this
    exact this.2.2) hR5 rfl (in_range' (chk_5 mo mr n) (by omega) (by omega)) (by rw[hh];omega) kL 46 s2 s4 rfl gL t hTL
   have hb:=in_B.1 hst
   have hmem:st.2.2=s2.2.2:=hm (fun x hx=>by
    have:=in_B.1 hx
    have:=in_range' (chk_4 mo mr n) (show 46≤x by omega) (by omega)
    simp only[Bool.and_eq_true] at this
    exact this.2.1)
   exact⟨_,jt,st,gW.trans g,fault_L hs f jt (by omega) (by omega) st (by rw[hmem];exact z2)⟩
  ·obtain⟨i,rfl⟩:∃i,t=kL+i:=⟨t-kL,by omega⟩
   have g0:=gW.trans gL
   have up:∀{N:Nat} {q:IO3},FinQ (hE mo mr n) mo mr N q→N≤5+hSteps mo mr→FinQ (hE mo mr n) mo mr (wSteps mo mr+16) q:=fun h hN=>fin_mono h (by unfold wSteps;omega)
   have hi6:i<6:=by omega
   -- the states of the last steps
   have e6:=H.e6
   have e7:=H.e7
   have e8:=H.e8
   have e9:=H.e9
   have e10:=H.e10
   rw[hh] at e6 e7 e8 e9 e10
   have q1:GoTo (hE mo mr n) 1 0 100 s4 101 (updR s4.1 5 0,s4.2):=go_cons (by rw[step_op e6];rfl) (by rw[hh];omega) (GoTo.refl _ _ _)
   have r51:(updR s4.1 5 0) 5=0:=updR_same _ _ _
   have q2:GoTo (hE mo mr n) 1 0 101 (updR s4.1 5 0,s4.2) 102 (updR (updR s4.1 5 0) 5 538968064,s4.2):=by
    refine go_cons ?_ (by rw[hh];omega) (GoTo.refl _ _ _)
    rw[step_op e7,do_movt _ _ _ _ _ (by show(updR s4.1 5 0) 5<_;rw[r51];omega)]
    show(false,101+1,updR (updR s4.1 5 0) 5 (wn (hi false 538968064) % 65536*65536+(updR s4.1 5 0) 5 % 65536),s4.2)=_
    rw[r51]
    rfl
   generalize hρ2:updR (updR s4.1 5 0) 5 538968064=ρ2 at q2
   have r52:ρ2 5=538968064:=by rw[←hρ2];exact updR_same _ _ _
   have q3:GoTo (hE mo mr n) 1 0 102 (ρ2,s4.2) 103 (updR ρ2 0 (wn (lo false 195890093)),s4.2):=go_cons (by rw[step_op e8];rfl) (by rw[hh];omega) (GoTo.refl _ _ _)
   have r53:(updR ρ2 0 (wn (lo false 195890093))) 5=538968064:=(updR_other _ _ (by decide)).trans r52
   generalize updR ρ2 0 (wn (lo false 195890093))=ρ3 at q3 r53
   have q4:GoTo (hE mo mr n) 1 0 103 (ρ3,s4.2) 104 (stepR ρ3 (insI 4 0 0 0 0 (hi false 195890093) 0),s4.2):=go_cons (by rw[step_op e9];rfl) (by rw[hh];omega) (GoTo.refl _ _ _)
   have r54:(stepR ρ3 (insI 4 0 0 0 0 (hi false 195890093) 0)) 5=538968064:=(updR_other ρ3 (k:=0) (j:=5) (wn (vOf 4 (hi false 195890093) 0 (ρ3 0) (ρ3 0) (ρ3 0) 0)) (by decide)).trans r53
   generalize stepR ρ3 (insI 4 0 0 0 0 (hi false 195890093) 0)=ρ4 at q4 r54
   have q5:GoTo (hE mo mr n) 1 0 104 (ρ4,s4.2) 105 (ρ4,s4.2.1,updW s4.2.2 538968064 (ρ4 0)):=by
    refine go_cons ?_ (by rw[hh];omega) (GoTo.refl _ _ _)
    rw[step_op e10,do_str]
    show(bif (hE mo mr n).okW (ρ4 5) then(false,104+1,ρ4,s4.2.1,updW s4.2.2 (ρ4 5) (ρ4 0)) else _)=_
    rw[r54,h_status H]
    rfl
   have cases6:i=0∨i=1∨i=2∨i=3∨i=4∨i=5:=by omega
   rcases cases6 with rfl |rfl |rfl |rfl |rfl |rfl
   ·exact⟨_,100,s4,g0,up (last_100 H f s4 hW4 r4) (by omega)⟩
   ·exact⟨_,101,_,g0.trans q1,up (last_101 H f (updR s4.1 5 0,s4.2) hW4 r51) (by omega)⟩
   ·have g:=(g0.trans q1).trans q2
    exact⟨_,102,_,g,up (last_102 H f (ρ2,s4.2) hW4 r52) (by omega)⟩
   ·have g:=((g0.trans q1).trans q2).trans q3
    exact⟨_,103,_,g,up (last_103 H f (ρ3,s4.2) hW4 r53) (by omega)⟩
   ·have g:=(((g0.trans q1).trans q2).trans q3).trans q4
    exact⟨_,104,_,g,up (last_104 H f (ρ4,s4.2) hW4 r54) (by omega)⟩
   ·have g:=((((g0.trans q1).trans q2).trans q3).trans q4).trans q5
    exact⟨_,105,_,g,up (last_105 H (chk_6 mo mr n) f (ρ4,s4.2.1,updW s4.2.2 538968064 (ρ4 0)) (wp_upd H hW4 _)) (by omega)⟩
end
end Go.Av
end
section
namespace Go.Av
open Go
theorem may_facts {i o r:Int} (h:qbO (i,o,r,())=true):i=0∧∃mo mr:Nat,o=((4*mo:Nat):Int)∧r=((4*mr:Nat):Int)∧mo≤20∧1≤mr∧mr≤30:=by
 have h:(i==0&&(decide (o≥0)&&(decide (o≤80)&&(decide (r≥4)&&(decide (r≤120)&&(Int.tmod o 4==0&&Int.tmod r 4==0))))))=true:=h
 simp only[Bool.and_eq_true,decide_eq_true_eq,beq_iff_eq] at h
 obtain⟨h1,h2,h3,h4,h5,h6,h7⟩:=h
 rw[Int.tmod_eq_emod_of_nonneg (by omega)] at h6 h7
 exact⟨h1,(o / 4).toNat,(r / 4).toNat,by omega,by omega,by omega,by omega,by omega⟩
theorem hand_code (o r:Nat) (tw:Bool):CodeOk (handH o r tw):=by
 refine⟨hand_all o r tw,?_,?_,?_,?_⟩
 ·rw[hand_labs]
  decide
 ·rw[hand_labs]
  decide
 ·have:=handP_len o r tw
  unfold handP at this
  rw[hand_cnt,this]
  cases tw<;>decide
 ·rw[hand_len]
  cases tw<;>decide
theorem dirty_val (mo mr:Nat) (l:List tStore.den) (tw:Bool) (h1:mo≤20) (h2:1≤mr∧mr≤30) :
  qb0 (((0:Int),((4*mo:Nat):Int),((4*mr:Nat):Int),()),l,tw)=true ∧
  qu (((0:Int),((4*mo:Nat):Int),((4*mr:Nat):Int),()),l,tw) =
   (qP (its (putsI ((0:Int),((4*mo:Nat):Int),((4*mr:Nat):Int),()) (l.take 40))++handH (4*mo) (4*mr) tw,((0:Int),((4*mo:Nat):Int),((4*mr:Nat):Int),()),0),(((putsI ((0:Int),((4*mo:Nat):Int),((4*mr:Nat):Int),()) (l.take 40)).length:Nat):Int),()):=by
 generalize hsz:(((0:Int),((4*mo:Nat):Int),((4*mr:Nat):Int),()):tSizes.den)=sz
 have hlen:=puts_len sz (l.take 40)
 rw[List.length_take] at hlen
 have hpl:(putsL sz (l.take 40)).length=(putsI sz (l.take 40)).length:=by
  rw[puts_its]
  unfold its
  rw[List.length_map]
 have hhl:=hand_len (4*mo) (4*mr) tw
 have hhl2:(handH (4*mo) (4*mr) tw).length≤120:=by rw[hhl];cases tw<;>decide
 have hV:qcF (sz,tw,0,1)=handH (4*mo) (4*mr) tw:=by rw[←hsz];rfl
 obtain⟨g,_⟩:=img_part (pre:=putsI sz (l.take 40)) (H:=handH (4*mo) (4*mr) tw) (puts_opK sz _) (by omega) (hand_code _ _ _) (4*mo) (4*mr) (by omega) (by omega) (by omega) (by omega)
 rw[hsz] at g
 have hT:(qb2 (sz,l,tw)).val=some (qP (its (putsI sz (l.take 40))++handH (4*mo) (4*mr) tw,sz,0),(((putsI sz (l.take 40)).length:Nat):Int),()):=by
  unfold qb2
  refine(val_opt (dirty_loop l tw sz)).trans ?_
  dsimp only
  rw[hV,puts_its]
  refine(val_yes ?_).trans ((val_yes g).trans ?_)
  ·rw[Nat.ble_eq]
   have:(its (putsI sz (l.take 40))).length=(putsI sz (l.take 40)).length:=by unfold its;rw[List.length_map]
   omega
  ·have:lenI (its (putsI sz (l.take 40)))=(((putsI sz (l.take 40)).length:Nat):Int):=by
    unfold its lenI
    rw[List.length_map]
   rw[this]
   rfl
 exact⟨by unfold qb0;rw[hT];rfl,by unfold qu PO.getO;rw[hT];rfl⟩
theorem hand_local (mo mr n:Nat) (tw:Bool):localE (handH (4*mo) (4*mr) tw) (4*mo) (4*mr) n=handE (4*mo) (4*mr) n tw:=by
 unfold localE handE handP
 rw[hand_cnt]
end Go.Av
end
section
namespace Go.Av
open Go
theorem slack_val (mo mr:Nat) (h1:mo≤20) (h2:1≤mr∧mr≤30):qcW ((0:Int),((4*mo:Nat):Int),((4*mr:Nat):Int),())=((128*mo+256*mr+256:Nat):Int):=by
 have hc:=mcheck_ok (4*mo) (4*mr) 0 (by omega) (by omega) (by omega) (by omega) (by omega)
 have hc:qE (((0:Int),((4*mo:Nat):Int),((4*mr:Nat):Int),()),0)=0:=hc
 unfold qcW qen PO.getO
 dsimp only
 rw[hc]
 simp only[PO.val]
 show w64 (w64 (32*w64 (((4*mo:Nat):Int)+w64 (2*((4*mr:Nat):Int))))+256)=_
 rw[w64_id (n:=2*((4*mr:Nat):Int)) (by omega) (by omega),w64_id (n:=((4*mo:Nat):Int)+2*((4*mr:Nat):Int)) (by omega) (by omega),w64_id (n:=32*(((4*mo:Nat):Int)+2*((4*mr:Nat):Int))) (by omega) (by omega),w64_id (by omega) (by omega)]
 omega
theorem hand_fault (mo mr n:Nat) (hs:SzOk (4*mo) (4*mr) n) (f:tFault.den) (m:Nat) (hf:(m:Int)≤(show Int from f.2.1)) (s:IS) (b:Nat) (hb:hSteps mo mr+(wSteps mo mr+16)<b) :
  ∃k c j' s',k≤hSteps mo mr+(wSteps mo mr+16)∧goI (hE mo mr n) f b m (false,0,s)=(k,c,true,j',s')∧Wp mo mr s'.2.2:=by
 have H:=hE_at hs
 have hh:(hE mo mr n).h=0:=rfl
 obtain⟨T,hT⟩:∃T:Nat,(show Int from f.2.1)=(m:Int)+T:=⟨((show Int from f.2.1)-m).toNat,by omega⟩
 rcases Nat.lt_or_ge T (hSteps mo mr) with hlt |hge
 ·obtain⟨c,jt,st,g,k,c2,j',s',h1,h2,h3⟩:=fault_fin hs f s T hlt
  obtain⟨d,rfl⟩:∃d,b=T+(d+1):=⟨b-T-1,by omega⟩
  have e1:=goI_split (hE mo mr n) f (d+1) T m (false,0,s) (by omega)
  unfold GoTo at g
  rw[g] at e1
  have e2:=goI_hit (hE mo mr n) f d ((m:Int)+T) jt st hT
  rw[e2] at e1
  have e3:goN (hE mo mr n) d (stepI (hE mo mr n) (f.1==(1:Int)) jt (hitI f st))=(k,c2,true,j',s'):=by
   obtain⟨d',rfl⟩:∃d',d=k+d':=⟨d-k,by omega⟩
   rw[goN_add,h2,goN_done _ d' rfl]
   rfl
  rw[e3] at e1
  exact⟨_,_,j',s',by omega,e1,h3⟩
 ·obtain⟨s',g,w,_⟩:=h_run H s
  obtain⟨d,rfl⟩:∃d,b=hSteps mo mr+d:=⟨b-hSteps mo mr,by omega⟩
  have e1:=goI_split (hE mo mr n) f d (hSteps mo mr) m (false,0,s) (by omega)
  unfold Ends at g
  rw[hh] at g
  rw[g] at e1
  have e2:∀k,goI (hE mo mr n) f d k (true,0+105,s')=(0,0,true,0+105,s'):=fun k=>by cases d<;>rfl
  rw[e2] at e1
  exact⟨_,_,_,s',by omega,e1,w⟩
theorem qi8 (x:dens qR) (_:fitsAll maxLen qR x):(qdZ x).val=some true:=by
 obtain⟨⟨i,o,r,u⟩,l,f⟩:=x
 unfold qdZ
 refine(val_yes (Bool.or_true _)).trans ?_
 cases hm:qbO (i,o,r,u)
 ·exact(val_yes rfl).trans rfl
 ·cases hck:(qp f != (0:Int))
  ·have hf:qp f=0:=by simpa using hck
   obtain⟨rfl,mo,mr,rfl,rfl,m1,m2,m3⟩:=may_facts hm
   obtain⟨d1,d2⟩:=dirty_val mo mr l true m1 ⟨m2,m3⟩
   have hsl:=slack_val mo mr m1 ⟨m2,m3⟩
   generalize hsz:(((0:Int),((4*mo:Nat):Int),((4*mr:Nat):Int),()):tSizes.den)=sz at *
   have hlen:=puts_len sz (l.take 40)
   rw[List.length_take] at hlen
   obtain⟨_,hd,adr,k,him,hk⟩:=img_part (pre:=putsI sz (l.take 40)) (H:=handH (4*mo) (4*mr) true) (puts_opK sz _) (by omega) (hand_code _ _ _) (4*mo) (4*mr) (by omega) (by omega) (by omega) (by omega)
   rw[hsz] at him
   generalize qP (its (putsI sz (l.take 40))++handH (4*mo) (4*mr) true,sz,0)=img at *
   have hs:SzOk (4*mo) (4*mr) img.length:=him.prg.sz
   obtain⟨ρ1,e1⟩:=puts_exec (E:=⟨prgTo (its (putsI sz (l.take 40))++handH (4*mo) (4*mr) true) (its (putsI sz (l.take 40))++handH (4*mo) (4*mr) true).length,4*mo,4*mr,img.length,cntI (its (putsI sz (l.take 40))++handH (4*mo) (4*mr) true) k⟩) hs (l.take 40) (beginS (4*mo) (4*mr) img.length img)
   dsimp only at e1
   rw[hsz] at e1
   generalize hW:putsW sz (l.take 40) (beginS (4*mo) (4*mr) img.length img).2.2=W1 at e1
   obtain⟨cy,hrun⟩:=run_behind (puts_opK sz (l.take 40)) (by omega) (hand_code _ _ true) (by omega) (by omega) (by omega) him hk e1 noFault noF_check (.inr rfl) (20000-(putsI sz (l.take 40)).length) (by omega)
   rw[show(putsI sz (l.take 40)).length+(20000-(putsI sz (l.take 40)).length)=20000 by omega] at hrun
   rw[goI_none,hand_local] at hrun
   obtain⟨s',h1,_,_⟩:=h_run (hand_at mo mr img.length true hs) (ρ1,(beginS (4*mo) (4*mr) img.length img).2.1,W1)
   have hfin:=ends_more h1 (n:=20000-(putsI sz (l.take 40)).length) (by unfold hSteps;omega)
   have hfin:goN (handE (4*mo) (4*mr) img.length true) (20000-(putsI sz (l.take 40)).length) (false,0,ρ1,(beginS (4*mo) (4*mr) img.length img).2.1,W1)=_:=hfin
   rw[hfin] at hrun
   dsimp only at hrun
   have hrun:qI (img,[],(0,0,0,0,()),20000)=_:=hrun
   refine(val_no ?_).trans ((val_yes d1).trans ?_)
   ·rfl
   ·rw[d2]
    dsimp only
    rw[hrun]
    dsimp only
    refine(val_no rfl).trans ?_
    cases hst:decide ((show Int from f.2.1)<(((putsI sz (l.take 40)).length:Nat):Int))
    ·refine(val_no rfl).trans ?_
     have hfs:(((putsI sz (l.take 40)).length:Nat):Int)≤(show Int from f.2.1):=Int.not_lt.1 (of_decide_eq_false hst)
     obtain⟨cy2,hrun2⟩:=run_behind (puts_opK sz (l.take 40)) (by omega) (hand_code _ _ true) (by omega) (by omega) (by omega) him hk e1 f hf (.inl hfs) (40000-(putsI sz (l.take 40)).length) (by omega)
     rw[show(putsI sz (l.take 40)).length+(40000-(putsI sz (l.take 40)).length)=40000 by omega] at hrun2
     rw[hand_local] at hrun2
     obtain⟨k2,c2,j2,s2,b1,b2,b3⟩:=hand_fault mo mr img.length hs f (putsI sz (l.take 40)).length hfs (ρ1,(beginS (4*mo) (4*mr) img.length img).2.1,W1) (40000-(putsI sz (l.take 40)).length) (by unfold hSteps wSteps lSteps hSteps;omega)
     have b2:goI (handE (4*mo) (4*mr) img.length true) f (40000-(putsI sz (l.take 40)).length) ((putsI sz (l.take 40)).length:Int) (false,0,ρ1,(beginS (4*mo) (4*mr) img.length img).2.1,W1)=_:=b2
     rw[b2] at hrun2
     dsimp only at hrun2
     have hrun2:qI (img,[],f,40000)=_:=hrun2
     rw[hrun2]
     dsimp only
     have z1:=bytesW_zero (W:=s2.2.2) (b:=537001984) (n:=4*mo) (fun i hi=>b3.out i (by omega))
     have z2:=bytesW_zero (W:=s2.2.2) (b:=537133056) (n:=4*mr) (fun i hi=>b3.a i (by omega))
     have z3:=bytesW_zero (W:=s2.2.2) (b:=537395200) (n:=4*mr) (fun i hi=>b3.b i (by omega))
     have l1:=bytesW_len s2.2.2 537001984 (4*mo) (by omega)
     have l2:=bytesW_len s2.2.2 537133056 (4*mr) (by omega)
     have l3:=bytesW_len s2.2.2 537395200 (4*mr) (by omega)
     rw[b3.commit]
     generalize bytesW s2.2.2 537001984 (4*mo)=X at *
     generalize bytesW s2.2.2 537133056 (4*mr)=Y at *
     generalize bytesW s2.2.2 537395200 (4*mr)=Z at *
     generalize ((s2.2.2 538968064:Nat):Int)=stt
     obtain⟨w1,w2⟩:=wiped_val true (((putsI sz (l.take 40)).length+k2:Nat):Int) cy2 ((c2:Nat):Int) ((0:Nat):Int) stt X Y Z (by omega) (by omega) (by omega)
     rw[z1,z2,z3] at w2
     rw[w1,w2,hsl]
     have c1:decide ((((putsI sz (l.take 40)).length+k2:Nat):Int)≤w64 ((((putsI sz (l.take 40)).length+hSteps mo mr:Nat):Int)+((128*mo+256*mr+256:Nat):Int)))=true:=by
      rw[w64_id (by omega) (by unfold hSteps;omega)]
      refine dec_true ?_
      unfold wSteps lSteps at b1
      unfold hSteps at *
      omega
     rw[c1]
     rfl
    ·exact(val_yes rfl).trans rfl
  ·exact(val_yes rfl).trans rfl
end Go.Av
end
