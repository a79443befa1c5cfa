/- Texts of the proof, one behind the other. -/
import Derived.Test.YtealbjacocgjcaaGreatWipeClearsK32
import Derived.WalkKit
import Derived.Defers
import Derived.Recover
import Derived.Test.YtealbjacocgjcaaGreatWipeClearsK22
import Derived.Test.YtealbjacocgjcaaGreatProg
import Derived.WalkSpells
import Derived.WalkLawsBesides
import Derived.Lib.Builder
import Derived.Lib.Walk
import Derived.Lib.AppendStr
import Derived.Lib.UnsafeStr
import Derived.Laws.Externs
import Derived.BigRegion
import Derived.Test.YtealbjacocgjcaaGreatWipeClearsK29
import Derived.Test.YtealbjacocgjcaaGreatWipeClearsK21
import Derived.Deep.QuietTactic
import Derived.BigQuiet
import Derived.Test.YtealbjacocgjcaaGreatWipeClearsK25
import Derived.Test.YtealbjacocgjcaaGreatWipeClearsK26
import Derived.Test.YtealbjacocgjcaaGreatWipeClearsK27
import Derived.Test.YtealbjacocgjcaaGreatWipeClearsK30
import Derived.Test.YtealbjacocgjcaaGreatWipeClearsK31
section
namespace Go.Av
open Go
def sucIn (E:Env) (f:Nat→Bool) (j:Nat):Bool:=match E.P[j]? with
 |none=>f E.h
 |some (.op i)=>bif i.1==2 then true else f (j+1)&&(bif i.1==19||i.1==20 then f E.h else true)
 |some (.br o _ t)=>f t&&(bif o==24 then true else f (j+1))
def noStr (E:Env) (j:Nat):Bool:=match E.P[j]? with
 |some (.op i)=>!(i.1==20)
 |_=>true
theorem suc_ok {E:Env} {f:Nat→Bool} {j:Nat} (h:sucIn E f j=true) (s:IS) (hd:(stepI E false j s).1=false):f (stepI E false j s).2.1=true:=by
 unfold sucIn at h
 unfold stepI at hd ⊢
 cases hp:E.P[j]? with
 |none=>rw[hp] at h;exact h
 |some p =>
  rw[hp] at h hd
  cases p with
  |op i =>
   have hd:(doI E j i s).1=false:=hd
   show f (doI E j i s).2.1=true
   dsimp only at h
   unfold doI at hd ⊢
   cases e2:(i.1==(2:Int))
   ·rw[e2] at h
    simp only[cond_false,Bool.and_eq_true] at h
    obtain⟨h1,h3⟩:=h
    cases e19:(i.1==(19:Int))
    ·rw[e19] at h3
     cases e20:(i.1==(20:Int))
     ·cases (i.1==(23:Int))<;>exact h1
     ·rw[e20] at h3
      cases E.okW (s.1 i.2.2.1)
      ·exact h3
      ·exact h1
    ·rw[e19] at h3
     cases E.okR (s.1 i.2.2.1)
     ·exact h3
     ·exact h1
   ·rw[e2] at hd
    cases hd
  |br o c t =>
   simp only[Bool.and_eq_true] at h
   show f (bif goesF s.2.1 o c then(false,t,s) else(false,j+1,s)).2.1=true
   cases hg:goesF s.2.1 o c
   ·have ho:(o==(24:Int))=false:=by
     cases ho:(o==(24:Int))
     ·rfl
     ·unfold goesF at hg
      rw[ho] at hg
      cases hg
    rw[ho] at h
    exact h.2
   ·exact h.1
theorem step_mem {E:Env} {j:Nat} (h:noStr E j=true) (sk:Bool) (s:IS):(stepI E sk j s).2.2.2.2=s.2.2:=by
 unfold noStr at h
 unfold stepI
 cases hp:E.P[j]? with
 |none=>rfl
 |some p =>
  rw[hp] at h
  cases sk
  ·show(atI E j s p).2.2.2.2=_
   cases p with
   |op i =>
    have h:(i.1==(20:Int))=false:=by simpa using h
    show(doI E j i s).2.2.2.2=_
    unfold doI
    rw[h]
    cases (i.1==(2:Int))
    ·cases (i.1==(19:Int))
     ·cases (i.1==(23:Int))<;>rfl
     ·cases E.okR (s.1 i.2.2.1)<;>rfl
    ·rfl
   |br o c t =>
    show(bif goesF s.2.1 o c then(false,t,s) else(false,j+1,s)).2.2.2.2=_
    cases goesF s.2.1 o c<;>rfl
  ·rfl
theorem go_split {E:Env} {k c j j':Nat} {s s':IS} (h:GoTo E (k+1) c j s j' s'):∃j1 s1 c1,stepI E false j s=(false,j1,s1)∧GoTo E k c1 j1 s1 j' s'∧c=(bif j==E.h then 1 else 0)+c1:=by
 unfold GoTo at h
 rw[goN] at h
 simp only[cond_false,Prod.mk.injEq] at h
 obtain⟨h1,h2,h3⟩:=h
 generalize hq:stepI E false j s=q at *
 obtain⟨b,j1,s1⟩:=q
 cases b with
 |true =>
  rw[goN_done E k rfl] at h3
  have:=congrArg (fun x=>x.1) h3
  cases this
 |false =>
  refine⟨j1,s1,(goN E k (false,j1,s1)).2.1,rfl,?_,h2.symm⟩
  unfold GoTo
  have e1:(goN E k (false,j1,s1)).1=k:=by omega
  rw[←h3]
  exact Prod.ext e1 rfl
theorem closed_go {E:Env} {Q:Nat→Bool} (hQ:∀j,Q j=true→sucIn E (fun x=>Q x||x==E.h) j=true):∀(k:Nat) (j:Nat) (s:IS) (j':Nat) (s':IS),Q j=true→GoTo E k 0 j s j' s'→Q j'=true∨j'=E.h
 |0,j,s,j',s',hj,h=>by
  have h:((0,0,false,j,s):Nat×Nat×IO3)=(0,0,false,j',s'):=h
  injection h with _ h
  injection h with _ h
  injection h with _ h
  injection h with h _
  rw[←h]
  exact .inl hj
 |k+1,j,s,j',s',hj,h=>by
  obtain⟨j1,s1,c1,e1,g1,ec⟩:=go_split h
  have c0:c1=0:=by omega
  subst c0
  have:=suc_ok (hQ j hj) s (by rw[e1])
  rw[e1] at this
  simp only[Bool.or_eq_true,beq_iff_eq] at this
  rcases this with h1 |h1
  ·exact closed_go hQ k j1 s1 j' s' h1 g1
  ·subst h1
   cases k with
   |zero =>
    have g1:((0,0,false,E.h,s1):Nat×Nat×IO3)=(0,0,false,j',s'):=g1
    injection g1 with _ g1
    injection g1 with _ g1
    injection g1 with _ g1
    injection g1 with g1 _
    exact .inr g1.symm
   |succ k =>
    obtain⟨_,_,c2,_,_,ec2⟩:=go_split g1
    rw[beq_self_eq_true] at ec2
    simp only[cond_true] at ec2
    omega
theorem stay {E:Env} {S R:Nat→Bool} {e:Nat} (hS:∀j,S j=true→sucIn E (fun x=>S x||(x==e||x==E.h)) j=true) (hR:∀j,R j=true→sucIn E (fun x=>R x||x==E.h) j=true) (hRe:R e=false) (he:sucIn E (fun x=>R x||x==E.h) e=true) (heh:e≠E.h) :
  ∀(k:Nat) (j:Nat) (s s':IS),S j=true→GoTo E k 0 j s e s'→∀t,t<k→∃jt st,GoTo E t 0 j s jt st∧S jt=true∧((∀x,S x=true→noStr E x=true)→st.2.2=s.2.2)
 |0,_,_,_,_,_,t,ht=>by cases ht
 |k+1,j,s,s',hj,h,t,ht=>by
  cases t with
  |zero=>exact⟨j,s,GoTo.refl E j s,hj,fun _=>rfl⟩
  |succ t =>
   obtain⟨j1,s1,c1,e1,g1,ec⟩:=go_split h
   have c0:c1=0:=by omega
   subst c0
   have hjh:(j==E.h)=false:=by
    cases hb:(j==E.h)
    ·rfl
    ·rw[hb] at ec;simp only[cond_true] at ec;omega
   have:=suc_ok (hS j hj) s (by rw[e1])
   rw[e1] at this
   simp only[Bool.or_eq_true,beq_iff_eq] at this
   rcases this with h1 |h1 |h1
   ·obtain⟨jt,st,g,hst,hmem⟩:=stay hS hR hRe he heh k j1 s1 s' h1 g1 t (by omega)
    refine⟨jt,st,go_cons e1 (by simpa using hjh) g,hst,fun hx=>?_⟩
    rw[hmem hx]
    have:=step_mem (hx j hj) false s
    rw[e1] at this
    exact this
   ·subst h1
    exfalso
    cases k with
    |zero=>omega
    |succ k =>
     obtain⟨j2,s2,c2,e2,g2,ec2⟩:=go_split g1
     have c0:c2=0:=by omega
     subst c0
     have:=suc_ok he s1 (by rw[e2])
     rw[e2] at this
     simp only[Bool.or_eq_true,beq_iff_eq] at this
     rcases this with h2 |h2
     ·rcases closed_go hR k j2 s2 j1 s' h2 g2 with h3 |h3
      ·rw[hRe] at h3;cases h3
      ·exact heh h3
     ·subst h2
      cases k with
      |zero =>
       have g2:((0,0,false,E.h,s2):Nat×Nat×IO3)=(0,0,false,j1,s'):=g2
       injection g2 with _ g2
       injection g2 with _ g2
       injection g2 with _ g2
       injection g2 with g2 _
       exact heh g2.symm
      |succ k =>
       obtain⟨_,_,c3,_,_,ec3⟩:=go_split g2
       rw[beq_self_eq_true] at ec3
       simp only[cond_true] at ec3
       omega
   ·subst h1
    exfalso
    cases k with
    |zero =>
     have g1:((0,0,false,E.h,s1):Nat×Nat×IO3)=(0,0,false,e,s'):=g1
     injection g1 with _ g1
     injection g1 with _ g1
     injection g1 with _ g1
     injection g1 with g1 _
     exact heh g1.symm
    |succ k =>
     obtain⟨_,_,c3,_,_,ec3⟩:=go_split g1
     rw[beq_self_eq_true] at ec3
     simp only[cond_true] at ec3
     omega
end Go.Av
end
section
namespace Go.Proofs.YtealbjacocgjcaaGreat
open Go Go.Av Go.Proofs Go.RowKit
noncomputable def stepRest:Code:=match Tryz.f79.body with
 |some (.seq _ r)=>r
 |_=>.skip
theorem trapZero (w:World):(Instr.typeAssert .nilIface 20 148 true).run Tryz.prog w=.ok (.tuple #[.agg #[.int .i64 0],.bool false]) w:=by
 kernel_rfl
theorem trapSome (v:Value) (w:World):(Instr.typeAssert (.iface 148 v) 20 148 true).run Tryz.prog w=.ok (.tuple #[v,.bool true]) w:=by
 kernel_rfl
theorem step_enter (cap:Array Value) (w:World):(invoke (.fn (.func 79) cap) #[]).run Tryz.prog w=.ok (.enter 79 cap) w:=by
 have h1 : (Tryz.f79.name == "runtime.NumGoroutine") = false := by kernel_rfl
 have h2:Tryz.f79.body.isNone=false:=by kernel_rfl
 have h3:Tryz.prog.funcs[79]?=some Tryz.f79:=Tryz.func79
 simp only[invoke,callFunc]
 rw[show(#[]:Array Value)++cap=cap by simp]
 simp only[Sem.run_bind,run_program,Result.andThen_ok,h3,h1,h2,Bool.false_eq_true,if_false]
 rfl
set_option maxRecDepth 100000 in
set_option maxHeartbeats 2000000 in
theorem step_catches:Catches Tryz.prog 79 148 Tryz.f79 stepRest where
 enter:=step_enter
 idle:=fun p0 p1 p2 w=>by
  refine callsD_of_wpS (c:=.seq (.region _ _ false) stepRest) Tryz.func79 rfl fun c₀ cs hu=>?_
  simp only[Tryz.ntmps79,List.size_toArray,List.length_cons,List.length_nil,Nat.reduceAdd,Nat.reduceSub,Array.replicate_succ,Array.replicate_zero,List.push_toArray,List.append_toArray,List.nil_append,List.cons_append]
  apply wpS_seq
  apply wpS_region
  simp[wpOpsS,go_sem,recoverD,hu,Exit.thenS,trapZero]
  refine wpS_of_wp ?_
  refine Code.wp_mono (Q:=fun e a' w'=>e=.normal∧a'.defers=[]∧w'=w.alloc (.cells #[.int .i64 0] 148)) (fun e a' w' hq=>?_) ?_
  ·obtain⟨rfl,hd,rfl⟩:=hq
   exact⟨hd,.returning,by rw[←hu],_,results_none rfl _ _ _,⟨_,rfl⟩,rfl,rfl⟩
  ·show Code.wp _ (.seq (.region _ _ false) (.cond (.tmp 10) _ .skip)) _ _ _
   refine wp_seq (wp_region ?_)
   simp[wpOps,go_sem,Exit.then]
   refine .inl (wp_cond (t:=false) ?_ ?_)
   ·simp[Act.eval]
   simp only[Bool.false_eq_true,if_false]
   exact wp_skip ⟨rfl,rfl,rfl⟩
 caught:=fun p0 p1 p2 m w Rr h=>by
  refine callsD_of_wpS (c:=.seq (.region _ _ false) stepRest) Tryz.func79 rfl fun c₀ cs hu=>?_
  simp only[Tryz.ntmps79,List.size_toArray,List.length_cons,List.length_nil,Nat.reduceAdd,Nat.reduceSub,Array.replicate_succ,Array.replicate_zero,List.push_toArray,List.append_toArray,List.nil_append,List.cons_append]
  apply wpS_seq
  apply wpS_region
  simp[wpOpsS,go_sem,recoverD,hu,Exit.thenS,trapSome]
  refine wpS_of_wp (Code.wp_mono (fun e a' w' hq=>?_) (h _ rfl rfl rfl rfl rfl rfl))
  obtain⟨he,hd,hr⟩:=hq
  rcases he with rfl |rfl
  ·exact⟨hd,_,rfl,_,results_none rfl _ _ _,⟨_,rfl⟩,rfl,hr⟩
  ·exact⟨hd,_,rfl,_,results_none rfl _ _ _,⟨_,rfl⟩,rfl,hr⟩
theorem step_ok {C:Ctx} (hC:Av.Good C) (hP:C.P=Tryz.prog) (unroll d:Nat):BodyOk C.P 42 (evStep C drawOk unroll d 42 79 148) :=
 evStep_ok hC (gn:=Tryz.f79) (rest:=stepRest) (by rw[hP];exact Tryz.func79) rfl (by rw[hP];exact step_catches)
end Go.Proofs.YtealbjacocgjcaaGreat
end
section
namespace Go.Proofs.YtealbjacocgjcaaGreat
open Go Go.RowKit Go.Av Go.Proofs
section
variable {P:Program} (w:World)
theorem run_app_new (t u ty e:TypeId) (i:TypeInfo) (ht:P.underlying t=some (.slice e)) (hu:P.underlying u=some .string) (hi:P.info? e=some i) (hz:i.zero=some (.int .u8 0))
  (hsize:i.size=1) (hby:i.bytes=1) (v:Value) (n:Nat) (xs:List Value) (hown:w.ownsRow 0 e 1 v n xs) (s:ByteArray) (hlen:n+s.size≤140737488355328) :
  ∃v' w',(Builtin.append_ #[t,u] ty #[v,.string s]).run P w=.ok v' w'∧w'.ownsRow 0 e 1 v' (n+s.size) (xs++Lib.strCells s)∧w.grownBy w' v.ownBlock∧(v'.ownBlock=v.ownBlock∨∀k,v'.ownBlock=some k→w.heap.size≤k):=by
 have h63:n+s.size≤maxLen:=by unfold maxLen;omega
 obtain⟨v',w',hr,ho,hg,_⟩:=Lib.run_append_own_string (P:=P) w 0 t u ty e i ht hu hi hz hsize hby v n xs hown s h63 hlen (Nat.zero_le _)
 refine⟨v',w',hr,ho,hg,?_⟩
 have hxl:xs.length=n:=by simpa using hown.1
 rcases hown.2 with⟨rfl,rfl⟩ |⟨g,cap,cur,rfl,hbg,hgg,hnc,hcm,hcs,htake⟩
 ·obtain⟨v2,w2,hr2,ho2,_,_⟩:=Lib.run_append_own_string (P:=P) w w.heap.size t u ty e i ht hu hi hz hsize hby (.slice none 0 0) 0 xs ⟨hown.1,.inl ⟨rfl,rfl⟩⟩ s h63 hlen (Nat.le_refl _)
  rw[hr] at hr2
  cases hr2
  exact .inr fun k hk=>(ho2.lt k hk).1
 ·have hcs':cur.size=cap:=by simpa using hcs
  by_cases hroom:n+s.size≤cap
  ·have hr2:=Lib.run_append_room_string (P:=P) w t u ty e i ht hu hi hsize g n cap cur hgg s hroom (by omega)
   rw[hr] at hr2
   cases hr2
   exact .inl rfl
  ·have holds:∀j u,xs[j]?=some u→w.cell? ((⟨g,0,none⟩:Addr).add j)=some u:=hown.cells (g:=g) rfl
   have hr2:=Lib.run_append_grow_string (P:=P) w t u ty e i (.int .u8 0) ht hu hi hz ⟨g,0,none⟩ n cap xs (by rw[hsize];simpa using hxl) holds s (by omega) (by omega) (by rw[hby];exact growslice_fits (by omega) (by omega))
   rw[hr] at hr2
   cases hr2
   exact .inr fun k hk=>by simp only[Value.ownBlock,Option.some.injEq] at hk;omega
theorem wpList_app_new {w:World} {ops:Array Oper} {rest:List Oper} {o:Oper} {a:Act} {Q:Exit→Act→World→Prop} (hgd:o.guard=none) (sl x:Operand) (t u:TypeId)
  (ho:o.op=.call {callee:=.builtin .append,args:=#[sl,x],argTypes:=#[t,u]})
  (e:TypeId) (i:TypeInfo) (ht:P.underlying t=some (.slice e)) (hu:P.underlying u=some .string) (hi:P.info? e=some i) (hz:i.zero=some (.int .u8 0))
  (hsize:i.size=1) (hby:i.bytes=1)
  (v:Value) (n:Nat) (xs:List Value) (hs:a.eval sl=v) (hown:w.ownsRow 0 e 1 v n xs) (s:ByteArray) (hx:a.eval x=.string s) (hlen:n+s.size≤140737488355328)
  (h:∀v' w',w'.ownsRow 0 e 1 v' (n+s.size) (xs++Lib.strCells s)→w.grownBy w' v.ownBlock→(v'.ownBlock=v.ownBlock∨∀k,v'.ownBlock=some k→w.heap.size≤k)→wpList P ops Q rest (a.put o.dst v') w'):wpList P ops Q (o::rest) a w:=by
 refine wpList_plain hgd fun K hK=>?_
 obtain⟨v',w',hr,h2,h3,h4⟩:=run_app_new (P:=P) w t u o.type e i ht hu hi hz hsize hby v n xs hown s hlen
 unfold Oper.wp execOp
 simp only[ho,resolve,invoke,builtin,Sem.run_bind,Sem.run_pure,Result.andThen_ok,List.map_toArray,List.map_cons,List.map_nil,hs,hx,hr]
 exact hK _ _ (h v' w' h2 h3 h4)
end
set_option maxRecDepth 100000 in
set_option maxHeartbeats 4000000 in
theorem copy_used (b:Nat) (w:World) (h0:w.cell? ⟨b,0,none⟩=some (.pointer (some ⟨b,0,none⟩))) :
  Calls Tryz.prog 108 #[.pointer (some ⟨b,0,none⟩)] w fun e w'=>e=.returned (.tuple #[])∧w'=w:=by
 have hq:(binOp .neq 125 (.pointer (some ⟨b,0,none⟩)) (.pointer (some ⟨b,0,none⟩))).run Tryz.prog w=.ok (.bool false) w:=by
  obtain⟨j,hj,_⟩:=Option.map_eq_some_iff.1 (show(Tryz.prog.info? 127).map (fun i=>i.size)=some 2 by kernel_rfl)
  exact Lib.run_neq_ptr_same w ⟨b,0,none⟩ (show Tryz.prog.underlying 125=some (.pointer 127) by kernel_rfl) hj
 go_enter Tryz.func108,Tryz.ntmps108
 go_wp2
 go_end0
 exact⟨rfl,rfl⟩
set_option maxRecDepth 100000 in
set_option maxHeartbeats 4000000 in
theorem copy_fresh (b:Nat) (w:World) (h0:w.cell? ⟨b,0,none⟩=some (.pointer none)) (hsh:w.shape? b=some (127,2)) (hfz:w.frozen? ⟨b,0,none⟩=false) :
  Calls Tryz.prog 108 #[.pointer (some ⟨b,0,none⟩)] w fun e w'=>e=.returned (.tuple #[])∧w'=w.setCell ⟨b,0,none⟩ (.pointer (some ⟨b,0,none⟩)):=by
 obtain⟨j,hj,hjs⟩:=Option.map_eq_some_iff.1 (show(Tryz.prog.info? 127).map (fun i=>i.size)=some 2 by kernel_rfl)
 have hu1:(convert 125 213 (.pointer (some ⟨b,0,none⟩))).run Tryz.prog w=.ok (.pointer (some ⟨b,0,none⟩)) w :=
  Lib.run_to_unsafe w ⟨b,0,none⟩ (show Tryz.prog.underlying 125=some (.pointer 127) by kernel_rfl) (show Tryz.prog.underlying 213=some .unsafePointer by kernel_rfl) hj (by rw[hjs];decide) hsh (Nat.zero_lt_succ 1)
 go_enter Tryz.func108,Tryz.ntmps108
 go_wp2
 rw[run_callFunc_extern Tryz.func132 (by kernel_rfl) (by kernel_rfl) (by kernel_rfl) (e:=Extern.AbiNoEscape.same) (by kernel_rfl)]
 rw[Lib.run_noEscape]
 simp only[Result.andThen]
 rw[Oper.upon_value]
 go_wp2
 rw[Lib.run_from_unsafe w ⟨b,0,none⟩ (show Tryz.prog.underlying 213=some .unsafePointer by kernel_rfl) (show Tryz.prog.underlying 125=some (.pointer 127) by kernel_rfl) hj hsh (by kernel_rfl)]
 simp only[Result.andThen]
 rw[Oper.upon_value]
 go_wp2
 go_end0
 exact⟨rfl,rfl⟩
theorem setCell_heap {w:World} {b:Nat} {c:Array Value} {T:TypeId} (h:w.heap[b]?=some (.cells c T (0,0))) (o:Nat) (v:Value):(w.setCell ⟨b,o,none⟩ v).heap[b]?=some (.cells (c.setIfInBounds o v) T (0,0)):=by
 simp[World.setCell,Array.getElem?_modify,h]
theorem setCell_other (w:World) {b x:Nat} (hx:x≠b) (o:Nat) (v:Value):(w.setCell ⟨b,o,none⟩ v).heap[x]?=w.heap[x]?:=by
 simp[World.setCell,Array.getElem?_modify,Ne.symm hx]
theorem setCell_size (w:World) (a:Addr) (v:Value):(w.setCell a v).heap.size=w.heap.size:=by
 simp[World.setCell]
theorem copy_any (b:Nat) (p v:Value) (w:World) (hb:w.heap[b]?=some (.cells #[p,v] 127 (0,0))) (hp:p=.pointer none∨p=.pointer (some ⟨b,0,none⟩)) :
  Calls Tryz.prog 108 #[.pointer (some ⟨b,0,none⟩)] w fun e w'=>e=.returned (.tuple #[])∧w'.heap[b]?=some (.cells #[.pointer (some ⟨b,0,none⟩),v] 127 (0,0)) ∧
   (∀x,x≠b→w'.heap[x]?=w.heap[x]?)∧w'.heap.size=w.heap.size∧w'.os=w.os∧w'.tape=w.tape∧w'.output=w.output:=by
 rcases hp with rfl |rfl
 ·refine(copy_fresh b w (by simp[World.cell?,hb]) (by simp[World.shape?,hb]) (by simp[World.frozen?,hb])).mono ?_
  rintro e w' ⟨rfl,rfl⟩
  refine⟨rfl,?_,fun x hx=>setCell_other w hx _ _,setCell_size _ _ _,rfl,rfl,rfl⟩
  rw[setCell_heap hb]
  rfl
 ·refine(copy_used b w (by simp[World.cell?,hb])).mono ?_
  rintro e w' ⟨rfl,rfl⟩
  exact⟨rfl,hb,fun _ _=>rfl,rfl,rfl,rfl,rfl⟩
set_option maxRecDepth 100000 in
set_option maxHeartbeats 4000000 in
theorem write_run (b:Nat) (p v:Value) (xs:List Value) (s:ByteArray) (w:World) (hb:w.heap[b]?=some (.cells #[p,v] 127 (0,0))) (hp:p=.pointer none∨p=.pointer (some ⟨b,0,none⟩))
  (hown:w.ownsRow 0 5 1 v xs.length xs) (hne:v.ownBlock≠some b) (hlen:xs.length+s.size≤140737488355328) :
  Calls Tryz.prog 70 #[.pointer (some ⟨b,0,none⟩),.string s] w fun e w'=>(∃r,e=.returned r)∧∃(v':Value) (w1 w2:World),w'.heap[b]?=some (.cells #[.pointer (some ⟨b,0,none⟩),v'] 127 (0,0)) ∧
   w2.ownsRow 0 5 1 v' (xs.length+s.size) (xs++Lib.strCells s)∧(∀x,x≠b→w'.heap[x]?=w2.heap[x]?)∧w'.heap.size=w2.heap.size∧w'.os=w2.os∧w'.tape=w2.tape∧w'.output=w2.output ∧
   w1.grownBy w2 v.ownBlock∧(∀x,x≠b→w1.heap[x]?=w.heap[x]?)∧w1.heap.size=w.heap.size∧w1.os=w.os∧w1.tape=w.tape∧w1.output=w.output∧(v'.ownBlock=v.ownBlock∨∀k,v'.ownBlock=some k→w.heap.size≤k):=by
 obtain⟨i0,hi,hz0,hz1,hz2⟩:=info_parts (show(Tryz.prog.info? 5).map (fun i=>(i.zero,i.size,i.bytes))=some (some (.int .u8 0),1,1) by kernel_rfl)
 go_enter Tryz.func70,Tryz.ntmps70
 go_wp2_with (go_at_call 108;refine(copy_any b p v _ hb hp).mono ?_)
 rintro e w1 ⟨rfl,hbk,hoth,hsz,hos,htp,hout⟩
 have hown1:w1.ownsRow 0 5 1 v xs.length xs:=by
  refine⟨hown.1,?_⟩
  rcases hown.2 with h |⟨g,cap,cur,hv,hg,hc,r⟩
  ·exact .inl h
  ·exact .inr ⟨g,cap,cur,hv,hg,(hoth g (fun e=>hne (by rw[hv,e];rfl))).trans hc,r⟩
 have hlt:b<w1.heap.size:=by
  rcases Nat.lt_or_ge b w1.heap.size with h' |h'
  ·exact h'
  ·simp[Array.getElem?_eq_none h'] at hbk
 have c0:w1.cell? ⟨b,0,none⟩=some (.pointer (some ⟨b,0,none⟩)):=by rw[Lib.cell_of_heap hbk];rfl
 have c1:w1.cell? ⟨b,1,none⟩=some v:=by rw[Lib.cell_of_heap hbk];rfl
 go_wp2_with (at_builtin;refine wpList_app_new rfl _ _ 112 9 rfl 5 i0 (show Tryz.prog.underlying 112=some (.slice 5) by kernel_rfl) (show Tryz.prog.underlying 9=some .string by kernel_rfl) hi hz0 hz1 hz2 _ _ _ rfl hown1 s rfl hlen ?_)
 intro v' w2 hown' hgrow hnew
 have hb2:w2.heap[b]?=some (.cells #[.pointer (some ⟨b,0,none⟩),v] 127 (0,0)):=by
  rw[hgrow.block b hlt (fun e=>hne e.symm)]
  exact hbk
 have d0:w2.cell? ⟨b,0,none⟩=some (.pointer (some ⟨b,0,none⟩)):=by rw[Lib.cell_of_heap hb2];rfl
 have d1:w2.cell? ⟨b,1,none⟩=some v:=by rw[Lib.cell_of_heap hb2];rfl
 have f1:w2.frozen? ⟨b,1,none⟩=false:=Lib.frozen_of_heap hb2 1
 obtain⟨ao,n',cap,rfl⟩:∃ao n' cap,v'=.slice ao n' cap:=by
  rcases hown'.2 with⟨hv,_⟩ |⟨g,cap,cur,hv,_⟩
  ·exact⟨_,_,_,hv⟩
  ·exact⟨_,_,_,hv⟩
 go_wp2
 go_ret2
 refine⟨⟨_,rfl⟩,.slice ao n' cap,w1,w2,?_,hown',fun x hx=>setCell_other w2 hx _ _,setCell_size _ _ _,rfl,rfl,rfl,hgrow,hoth,hsz,hos,htp,hout,hnew⟩
 rw[setCell_heap hb2]
 rfl
theorem grown_drew (w:World) (row:Option Nat):w.grownBy w.drew row:=⟨rfl,rfl,rfl,Nat.le_refl _,fun _ _ _=>rfl⟩
theorem grown_freeze {w a:World} {g:Nat} (h:a.grownBy w (some g)) (n:Nat):a.grownBy (w.freeze ⟨g,0,none⟩ n) (some g):=by
 unfold World.freeze
 split
 ·exact h
 ·refine⟨h.os,h.tape,h.output,by simpa using h.size,fun k hk hne=>?_⟩
  simp only[Array.getElem?_modify]
  rw[if_neg (fun e=>hne (by rw[←e]))]
  exact h.block k hk hne
set_option maxRecDepth 100000 in
set_option maxHeartbeats 4000000 in
theorem string_run (b:Nat) (p v:Value) (l:List UInt8) (w:World) (hb:w.heap[b]?=some (.cells #[p,v] 127 (0,0)))
  (hown:w.ownsRow 0 5 1 v l.length (l.map fun x=>Value.int .u8 x.toNat)) :
  Calls Tryz.prog 71 #[.pointer (some ⟨b,0,none⟩)] w fun e w'=>e=.returned (.string ⟨l.toArray⟩)∧w.grownBy w' v.ownBlock:=by
 have hUS0:∀(W:World) q,(Builtin.unsafeString_ #[176,3] 9 #[.pointer q,.int .i64 0]).run Tryz.prog W=.ok (.string .empty) W:=fun W q=>Lib.run_unsafeString_none W _ _ _ q
 have c1:w.drew.cell? ⟨b,1,none⟩=some v:=by
  have:w.drew.heap[b]?=some (.cells #[p,v] 127 (0,0)):=hb
  rw[Lib.cell_of_heap this];rfl
 rcases hown.2 with⟨rfl,hz⟩ |⟨g,cap,cur,rfl,hbg,hg,hnc,hcm,hcs,htake⟩
 ·have:l=[]:=List.eq_nil_of_length_eq_zero hz
  subst this
  have hSD:(Builtin.unsafeSliceData_ #[112] 176 #[.slice none 0 0]).run Tryz.prog w.drew=.ok (.pointer none) w.drew:=rfl
  go_enter Tryz.func71,Tryz.ntmps71
  go_wp2
  go_region
  all_goals (go_wp2;go_ret;exact⟨rfl,grown_drew w _⟩)
 ·have hbw:w.drew.heap[b]?=some (.cells #[p,.slice (some ⟨g,0,none⟩) l.length cap] 127 (0,0)):=hb
  by_cases h0:l=[]
  ·subst h0
   by_cases hc:cap=0
   ·subst hc
    have hlt:b<w.heap.size:=by
     rcases Nat.lt_or_ge b w.heap.size with h' |h'
     ·exact h'
     ·simp[Array.getElem?_eq_none h'] at hb
    have hg':w.drew.heap[g]?=some (.cells cur 5 (0,0)):=hg
    have hSD:(Builtin.unsafeSliceData_ #[112] 176 #[.slice (some ⟨g,0,none⟩) 0 0]).run Tryz.prog w.drew=.ok (.pointer (some ⟨w.drew.heap.size,0,none⟩)) (w.drew.alloc (.view ⟨g,0,none⟩ 5)) :=
     Lib.run_unsafeSliceData_zero w.drew _ _ 5 (show Tryz.prog.underlying 176=some (.pointer 5) by kernel_rfl) ⟨g,0,none⟩ 0 (5,cur.size) (by simp[World.shape?,hg'])
    have c2:(w.drew.alloc (.view ⟨g,0,none⟩ 5)).cell? ⟨b,1,none⟩=some (.slice (some ⟨g,0,none⟩) 0 0):=by
     have:(w.drew.alloc (.view ⟨g,0,none⟩ 5)).heap[b]?=_:=(Lib.alloc_old w.drew _ b hlt).trans hbw
     rw[Lib.cell_of_heap this];rfl
    have c3:(w.alloc (.view ⟨g,0,none⟩ 5)).drew.cell? ⟨b,1,none⟩=some (.slice (some ⟨g,0,none⟩) 0 0):=c2
    have c0:w.cell? ⟨b,1,none⟩=some (.slice (some ⟨g,0,none⟩) 0 0):=c1
    go_enter Tryz.func71,Tryz.ntmps71
    go_wp2
    go_region
    all_goals (go_wp2;go_ret;exact⟨rfl,rfl,rfl,rfl,(World.grownBy_alloc w.drew _ none).size,fun k hk _=>(World.grownBy_alloc w.drew _ none).block k hk (by simp)⟩)
   ·have hSD:(Builtin.unsafeSliceData_ #[112] 176 #[.slice (some ⟨g,0,none⟩) 0 cap]).run Tryz.prog w.drew=.ok (.pointer (some ⟨g,0,none⟩)) w.drew :=
     Lib.run_unsafeSliceData_row _ _ _ _ _ _ hc
    clear hc
    go_enter Tryz.func71,Tryz.ntmps71
    go_wp2
    go_region
    all_goals (go_wp2;go_ret;exact⟨rfl,grown_drew w _⟩)
  ·have hl0:l.length≠0:=by simpa using h0
   have hSD:(Builtin.unsafeSliceData_ #[112] 176 #[.slice (some ⟨g,0,none⟩) l.length cap]).run Tryz.prog w.drew=.ok (.pointer (some ⟨g,0,none⟩)) w.drew :=
    Lib.run_unsafeSliceData_row _ _ _ _ _ _ (by omega)
   have hUS:(Builtin.unsafeString_ #[176,3] 9 #[.pointer (some ⟨g,0,none⟩),.int .i64 l.length]).run Tryz.prog w.drew=.ok (.string ⟨l.toArray⟩) (w.drew.freeze ⟨g,0,none⟩ l.length):=by
    refine Lib.run_unsafeString_row w.drew 176 3 9 5 (show Tryz.prog.underlying 176=some (.pointer 5) by kernel_rfl) (show Tryz.prog.cellsOf 5=1 by kernel_rfl) g cur.size (by have hg':w.drew.heap[g]?=some (.cells cur 5 (0,0)):=hg;simp[World.shape?,hg']) l h0 (by omega) (by unfold maxLen at hcm;omega) ?_
    intro j x hx
    have:=hown.cells (g:=g) rfl j (.int .u8 x.toNat) (by simp[hx])
    exact this
   clear hUS0
   go_enter Tryz.func71,Tryz.ntmps71
   go_wp2
   go_region
   all_goals (go_wp2;go_ret;exact⟨rfl,grown_freeze (grown_drew w _) _⟩)
theorem bld_box {w:World} {K:Kinds} {y:shBld.den} (hh:HeapOk w K (enum 0 (savs [shBld] y))) {b:Nat} (hb:b<w.heap.size) (hk:K b=.box 0) :
  ∃p v,w.heap[b]?=some (.cells #[p,v] 127 (0,0))∧(p=.pointer none∨p=.pointer (some ⟨b,0,none⟩))∧w.ownsRow 0 5 1 v (List.length y.2.1) (List.map (fun x:UInt8=>Value.int .u8 x.toNat) y.2.1) ∧
   (∀g,v.ownBlock=some g→K g=.row 0 0∧g<w.heap.size)∧∃A n c,v=.slice A n c:=by
 obtain⟨av,o,h1,h2,h3⟩:=hh.cells b 0 hb hk
 have e1:av=⟨shBld,y⟩:=by
  have:some (⟨shBld,y⟩:AV)=some av:=h1
  cases this
  rfl
 subst e1
 obtain⟨cs,rfl,c1,c2,hcs,⟨q,hq,hq'⟩,c3,c4,hc34,⟨A,n,cap,hA,hA'⟩,h5⟩:=h3
 have h5':c4=[]:=h5
 subst h5' hA hc34 hq
 have hcs':cs=#[.pointer q,.slice A n cap]:=by
  apply Array.ext'
  rw[hcs]
  rfl
 subst hcs'
 refine⟨_,_,h2,?_,?_,?_,_,_,_,rfl⟩
 ·rcases hq' with rfl |⟨b',rfl,hb1,hb2⟩
  ·exact .inl rfl
  ·rw[hh.uniq b' b 0 hb2 hb hb1 hk]
   exact .inr rfl
 ·rcases hA' with⟨rfl,rfl,rfl,hx⟩ |⟨g,cur,rfl,hg1,hg2,hg3,hg4,hg5,hg6,hg7⟩
  ·rw[hx]
   exact⟨rfl,.inl ⟨rfl,rfl⟩⟩
  ·subst hg3
   exact⟨by simp,.inr ⟨g,cap,cur,rfl,Nat.zero_le _,hg2,hg4,hg5,by rw[hg6,Nat.mul_one],by rw[Nat.mul_one];exact hg7⟩⟩
 ·intro g hg
  rcases hA' with⟨rfl,_⟩ |⟨g',cur,rfl,hg1,hg2,_⟩
  ·cases hg
  ·simp only[Value.ownBlock,Option.some.injEq] at hg
   subst hg
   exact⟨hg1,(Array.getElem?_eq_some_iff.1 hg2).1⟩
def newK (w:World) (K:Kinds) (v:Value):Kinds:=fun k=>if k<w.heap.size then K k else if v.ownBlock=some k then .row 0 0 else .old
theorem newK_old {w:World} {K:Kinds} {v:Value} {k:Nat} (h:k<w.heap.size):newK w K v k=K k:=if_pos h
theorem newK_box {w:World} {K:Kinds} {v:Value} {k id:Nat} (h:newK w K v k=.box id):k<w.heap.size∧K k=.box id:=by
 unfold newK at h
 split at h
 ·exact⟨by assumption,h⟩
 ·split at h<;>cases h
theorem bld_ext {w w':World} {K:Kinds} {b:Nat} {v u:Value} {cs cs':Array Value} {T:TypeId} (os:w'.os=w.os) (tape:w'.tape=w.tape) (output:w'.output=w.output) (size:w.heap.size≤w'.heap.size)
  (hkb:K b=.box 0) (hv:∀g,v.ownBlock=some g→K g=.row 0 0) (hb:w.heap[b]?=some (.cells cs T (0,0))) (hb':w'.heap[b]?=some (.cells cs' T (0,0))) (hsz:cs.size≤cs'.size)
  (hoth:∀k,k<w.heap.size→k≠b→some k≠v.ownBlock→w'.heap[k]?=w.heap[k]?):Ext w K w' (newK w K u) where
 os:=os
 tape:=tape
 output:=output
 size:=size
 fix:=fun k hk hf=>⟨newK_old hk,hoth k hk (fun e=>by rw[e,hkb] at hf;cases hf) (fun e=>by rw[hv k e.symm] at hf;cases hf)⟩
 stab:=fun k o hk hs=>by
  refine⟨by unfold Stab at *;rw[newK_old hk];exact hs,World.cell?_of_block (hoth k hk (fun e=>?_) (fun e=>?_))⟩
  ·unfold Stab at hs
   rw[e,hkb] at hs
   exact hs.elim
  ·unfold Stab at hs
   rw[hv k e.symm] at hs
   exact absurd hs (Nat.not_lt_zero _)
 box:=fun k id hk h=>by rw[newK_old hk];exact h
 bsz:=fun k id n hk h hn=>by
  by_cases e:k=b
  ·subst e
   obtain⟨c,T',h1,h2⟩:=hn
   rw[hb] at h1
   cases h1
   exact⟨_,_,hb',Nat.le_trans h2 hsz⟩
  ·obtain⟨c,T',h1,h2⟩:=hn
   exact⟨c,T',(hoth k hk e (fun e=>by rw[hv k e.symm] at h;cases h)).trans h1,h2⟩
theorem heap_one {w':World} {w:World} {K:Kinds} {s:Sh} {y:s.den} {s':Sh} {x':s'.den} {b:Nat} {u:Value} {o:Obj} (hh:HeapOk w K (enum 0 (savs [s] y))) (hb:b<w.heap.size) (hkb:K b=.box 0) (hb':w'.heap[b]?=some o) (ho:BoxOk w' (newK w K u) s' x' o) :
  HeapOk w' (newK w K u) (enum 0 (savs [s'] x')) where
 cells:=fun k id hk h=>by
  obtain⟨h1,h2⟩:=newK_box h
  obtain⟨av,o',l1,_⟩:=hh.cells k id h1 h2
  have hid:id<0+1:=look_enum_lt [⟨s,y⟩] 0 id av l1
  have:id=0:=by omega
  subst this
  have:=hh.uniq k b 0 h1 hb h2 hkb
  subst this
  exact⟨⟨s',x'⟩,o,rfl,hb',ho⟩
 uniq:=fun k k' id hk hk' h h'=>by
  obtain⟨h1,h2⟩:=newK_box h
  obtain⟨h3,h4⟩:=newK_box h'
  exact hh.uniq k k' id h1 h3 h2 h4
theorem write_body:BodyOk Tryz.prog 70 body_WriteString:=by
 intro args h0 nx Kc r hrun w K vs hvs hh Rf hk _
 simp only[body_WriteString,bodyT] at hrun
 split at hrun
 ·rename_i x y hx hy
  cases hG:qcB y.2.1 x.2 with
  |false=>rw[hG] at hrun;cases hrun
  |true =>
   rw[hG] at hrun
   simp only[cond_true] at hrun
   have hho:=hh.to hy
   have hrv:=toAll_RVs _ args x vs hx hvs
   match vs,hrv with
   |v1::v2::vr,hrv =>
   obtain⟨r1,r2,r3⟩:=hrv
   have hvr:vr=[]:=by
    cases vr with
    |nil=>rfl
    |cons _ _=>exact r3.elim
   subst hvr
   obtain⟨b,rfl,hkb,hb⟩:=RV.box r1
   have e2:=RV.str r2
   subst e2
   obtain⟨p,v,hbk,hp,hown,hrow,A,n,c,hvA⟩:=bld_box hho hb hkb
   have hne:v.ownBlock≠some b:=fun e=>by have:=(hrow b e).1;rw[hkb] at this;cases this
   have hlen:(List.map (fun x:UInt8=>Value.int .u8 x.toNat) y.2.1).length+(⟨⟨x.2⟩⟩:ByteArray).size≤140737488355328:=by
    have:=Nat.le_of_ble_eq_true (show Nat.ble (List.length y.2.1+List.length x.2) 140737488355328=true from hG)
    simpa [ByteArray.size] using this
   refine(write_run b p v (List.map (fun x:UInt8=>Value.int .u8 x.toNat) y.2.1) ⟨⟨x.2⟩⟩ w hbk hp (by rw[List.length_map];exact hown) hne hlen).mono ?_
   rintro e w' ⟨⟨rr,rfl⟩,v',w1,w2,hb',hown',hoth2,hsz2,hos2,htp2,hout2,hgrow,hoth1,hsz1,hos1,htp1,hout1,hnew⟩
   have hrow':∀g,v'.ownBlock=some g→newK w K v' g=.row 0 0∧g≠b:=fun g hg=>by
    rcases hnew with e |e
    ·obtain⟨h1,h2⟩:=hrow g (by rw[←e];exact hg)
     exact⟨(newK_old h2).trans h1,fun e=>by rw[e,hkb] at h1;cases h1⟩
    ·have:=e g hg
     refine⟨?_,by omega⟩
     unfold newK
     rw[if_neg (by omega),if_pos hg]
   refine hk ⟨.top,()⟩ rr _ _ w' (newK w K v') (bld_ext (by rw[hos2,hgrow.os,hos1]) (by rw[htp2,hgrow.tape,htp1]) (by rw[hout2,hgrow.output,hout1]) (by rw[hsz2,←hsz1];exact hgrow.size) hkb (fun g hg=>(hrow g hg).1) hbk hb' (Nat.le_refl _) (fun k hk hkb hkv=>?_)) trivial
    (heap_one hho hb hkb hb' ?_) hrun
   ·rw[hoth2 k hkb,hgrow.block k (by rw[hsz1];exact hk) hkv,hoth1 k hkb]
   ·refine⟨_,rfl,[_],[_],rfl,⟨_,rfl,.inr ⟨b,rfl,(newK_old hb).trans hkb,by rw[hsz2];exact Nat.lt_of_lt_of_le (by rw[hsz1];exact hb) hgrow.size⟩⟩,[_],[],rfl,?_,rfl⟩
    have hm:List.map (fun x:UInt8=>Value.int .u8 x.toNat) y.2.1++Lib.strCells ⟨⟨x.2⟩⟩=List.map (fun x:UInt8=>Value.int .u8 x.toNat) (y.2.1++x.2):=by
     simp[Lib.strCells]
    rw[hm,List.length_map] at hown'
    have hl:List.length y.2.1+(⟨⟨x.2⟩⟩:ByteArray).size=List.length (y.2.1++x.2):=by simp[ByteArray.size]
    rw[hl] at hown'
    rcases hown'.2 with⟨rfl,hz⟩ |⟨g,cap,cur,rfl,_,hg,hnc,hcm,hcs,htake⟩
    ·exact⟨_,_,_,rfl,.inl ⟨rfl,rfl,rfl,List.eq_nil_of_length_eq_zero hz⟩⟩
    ·obtain⟨q1,q2⟩:=hrow' g rfl
     exact⟨_,_,_,rfl,.inr ⟨g,cur,rfl,q1,(hoth2 g q2).trans hg,rfl,hnc,hcm,by simpa using hcs,by simpa [qdN] using htake⟩⟩
 ·cases hrun
theorem string_body:BodyOk Tryz.prog 71 body_String:=by
 intro args h0 nx Kc r hrun w K vs hvs hh Rf hk _
 simp only[body_String,bodyT] at hrun
 split at hrun
 ·rename_i x y hx hy
  simp only[cond_true] at hrun
  have hho:=hh.to hy
  have hrv:=toAll_RVs _ args x vs hx hvs
  match vs,hrv with
  |v1::vr,hrv =>
  obtain⟨r1,r3⟩:=hrv
  have hvr:vr=[]:=by
   cases vr with
   |nil=>rfl
   |cons _ _=>exact r3.elim
  subst hvr
  obtain⟨b,rfl,hkb,hb⟩:=RV.box r1
  obtain⟨p,v,hbk,hp,hown,hrow,A,n,c,hvA⟩:=bld_box hho hb hkb
  have hne:some b≠v.ownBlock:=fun e=>by have:=(hrow b e.symm).1;rw[hkb] at this;cases this
  refine(string_run b p v y.2.1 w hbk hown).mono ?_
  rintro e w' ⟨rfl,hgrow⟩
  have hb':w'.heap[b]?=_:=(hgrow.block b hb hne).trans hbk
  refine hk ⟨.ty .str,y.2.1⟩ _ _ _ w' (newK w K (.bool true)) (bld_ext hgrow.os hgrow.tape hgrow.output hgrow.size hkb (fun g hg=>(hrow g hg).1) hbk hb' (Nat.le_refl _) (fun k hk _ hkv=>hgrow.block k hk hkv)) ⟨rfl,⟨(fun h=>by cases h),(fun _ c h=>by cases h)⟩⟩
   (heap_one hho hb hkb hb' ?_) hrun
  subst hvA
  rcases hp with rfl |rfl
  ·exact⟨_,rfl,[_],[_],rfl,⟨_,rfl,.inl rfl⟩,[_],[],rfl,⟨_,rfl,rfl⟩,rfl⟩
  ·exact⟨_,rfl,[_],[_],rfl,⟨_,rfl,.inr ⟨b,rfl,(newK_old hb).trans hkb,Nat.lt_of_lt_of_le hb hgrow.size⟩⟩,[_],[],rfl,⟨_,rfl,rfl⟩,rfl⟩
 ·cases hrun
end Go.Proofs.YtealbjacocgjcaaGreat
end
section
namespace Go.Proofs.YtealbjacocgjcaaGreat
open Go Go.RowKit Go.Av Go.Proofs
set_option maxRecDepth 100000 in
set_option maxHeartbeats 4000000 in
theorem offset_run (b mb g g2 n cap n2 cap2 o o2:Nat) (i j lab x y:Int) (w:World)
  (c0:w.cell? ⟨b,0,none⟩=some (.slice (some ⟨g,o,none⟩) n cap)) (c2:w.cell? ⟨b,2,none⟩=some (.map (some mb)))
  (ci:w.cell? ⟨g,o+i.toNat*10+1,none⟩=some (.int .i64 lab)) (hi:0≤i∧i<(n:Int))
  (hl:∀m:Nat,(Instr.lookup 118 (.map (some mb)) (.int .i64 lab) false).run Tryz.prog (w.drewN m)=.ok (.int .i64 j) (w.drewN m))
  (hj:0≤j∧j<(n2:Int)) (hi2:0≤i∧i<(n2:Int)) (cj:w.cell? ⟨g2,o2+j.toNat,none⟩=some (.int .i64 x)) (ck:w.cell? ⟨g2,o2+i.toNat,none⟩=some (.int .i64 y)) :
  Calls Tryz.prog 68 #[.pointer (some ⟨b,0,none⟩),.slice (some ⟨g2,o2,none⟩) n2 cap2,.int .i64 i] w fun e w'=>e=.returned (.int .i64 (wrap64 (wrap64 (x-y)-4)))∧∃m,w'=w.drewN m:=by
 go_enter Tryz.func68,Tryz.ntmps68
 go_wp2
 go_quiet (fail)
 go_wp2
 go_ret
 exact⟨rfl,_,rfl⟩
theorem drew_ext (w:World) (K:Kinds) (m:Nat):Ext w K (w.drewN m) K :=
 ⟨rfl,rfl,rfl,Nat.le_refl _,fun _ _ _=>⟨rfl,rfl⟩,fun _ _ _ h=>⟨h,rfl⟩,fun _ _ _ h=>h,fun _ _ _ _ _ h=>h⟩
theorem label_at {w:World} {K:Kinds}:∀(it:List tItem.den) (cc:List Value) (i:Nat),RL (RT w K tItem) it cc→i<it.length→cc[i*10+1]?=some (.int .i64 (it.getD i (Ty.dflt tItem)).2.1)
 |[],_,_,_,h=>absurd h (Nat.not_lt_zero _)
 |x::it,_,0,⟨_,_,rfl,h1,_⟩,_=>by
  obtain⟨d1,d2,rfl,e1,e2⟩:=h1
  obtain⟨d3,d4,rfl,e3,_⟩:=e2
  have e1':d1=[.int .i64 x.1]:=e1
  have e3':d3=[.int .i64 x.2.1]:=e3
  subst e1' e3'
  rfl
 |x::it,_,i+1,⟨c1,c2,rfl,h1,h2⟩,h=>by
  have hl:c1.length=10:=RT.length tItem x c1 h1
  have:=label_at it c2 i h2 (by simpa using h)
  rw[show(i+1)*10+1=10+(i*10+1) by omega,List.getElem?_append_right (by omega),hl,show 10+(i*10+1)-10=i*10+1 by omega,this]
  rfl
theorem int_at {w:World} {K:Kinds}:∀(l:List Int) (cc:List Value) (i:Nat),RL (RT w K (.int .i64)) l cc→i<l.length→cc[i]?=some (.int .i64 (l.getD i 0))
 |[],_,_,_,h=>absurd h (Nat.not_lt_zero _)
 |x::l,_,0,⟨_,_,rfl,h1,_⟩,_=>by
  rw[show _=[Value.int .i64 x] from h1]
  rfl
 |x::l,_,i+1,⟨c1,c2,rfl,h1,h2⟩,h=>by
  have e:c1=[Value.int .i64 x]:=h1
  subst e
  exact int_at l c2 i h2 (by simpa using h)
theorem inRange_facts {i:Int} {n:Nat} (h:inRange i n=true):0≤i∧i<(n:Int):=by
 unfold inRange at h
 simpa using h
theorem offset_plain:PlainOk Tryz.prog 68 snap_asm_assembler_offset:=by
 intro args v h w K vs hvs _
 unfold snap_asm_assembler_offset at h
 split at h
 ·match vs,hvs with
  |u::vs,hvs =>
   obtain⟨ts,_,ht⟩:=hvs.1
   exact ht.elim
 ·cases h
theorem offset_snap:SnapOk Tryz.prog 68 snap_asm_assembler_offset:=by
 intro sl en rest v h w K p vs hat hvs hfix
 unfold snap_asm_assembler_offset at h
 split at h
 ·rename_i l a0 e it en' at_ i heq
  simp only[List.cons.injEq] at heq
  obtain⟨_,rfl,rfl,rfl⟩:=heq
  split at h
  ·rename_i he _
   subst he
   simp only[Option.some.injEq,Prod.mk.injEq] at h
   obtain⟨hg,rfl⟩:=h
   obtain⟨b,cs,T,c0,c1,mb,cr,ob,rfl,hb,hcs,h0,hm,hmo⟩:=hat
   match vs,hvs with
   |va::vi::vr,hvs =>
   obtain⟨hva,hvi,hvr⟩:=hvs
   have hvr':vr=[]:=by
    cases vr with
    |nil=>rfl
    |cons _ _=>exact hvr.elim
   subst hvr'
   have evi:vi=.int .i64 i:=RV.int hvi
   subst evi
   obtain⟨A2,len2,cap2,rfl,A3,len3,cap3,e3,x1,x2,x3,x4⟩:=RV.sl hva
   simp only[List.cons.injEq,and_true,Value.slice.injEq] at e3
   obtain⟨rfl,rfl,rfl⟩:=e3
   obtain⟨A,len,cap,hc0,y1,y2,y3,y4⟩:=h0
   simp only[List.cons.injEq,and_true] at hc0
   subst hc0
   obtain⟨es,mc,rfl,hmis⟩:=hmo
   unfold qcy at hg
   simp only[Bool.and_eq_true] at hg
   obtain⟨g1,g2,g3⟩:=hg
   have i1:=inRange_facts g1
   have i2:=inRange_facts g2
   have i3:=inRange_facts g3
   have hlen:0<len:=by
    have:(0:Int)<(List.length it:Int):=by omega
    have e1:len=List.length it:=y1
    omega
   have hlen2:0<len2:=by
    have:(0:Int)<(List.length at_:Int):=by omega
    have e1:len2=List.length at_:=x1
    omega
   obtain⟨a,rfl⟩:∃a,A=some a:=by
    cases A with
    |none=>have:=y3 rfl;omega
    |some a=>exact⟨a,rfl⟩
   obtain⟨a2,rfl⟩:∃a,A2=some a:=by
    cases A2 with
    |none=>have:=x3 rfl;omega
    |some a=>exact⟨a,rfl⟩
   obtain⟨cc,q1,q2⟩:=y4 a rfl
   obtain⟨cc2,p1,p2⟩:=x4 a2 rfl
   have t1:=label_at it cc i.toNat q1 (by omega)
   have t2:=int_at at_ cc2 (mval en' (it.getD i.toNat (Ty.dflt tItem)).2.1).toNat p1 (by omega)
   have t3:=int_at at_ cc2 i.toNat p1 (by omega)
   obtain⟨s1,s2,_⟩:=q2 _ _ t1
   obtain⟨s3,s4,_⟩:=p2 _ _ t2
   obtain⟨_,s5,_⟩:=p2 _ _ t3
   obtain⟨ab,ao,asp⟩:=a
   obtain⟨ab2,ao2,asp2⟩:=a2
   have s1':asp=none:=s1
   have s3':asp2=none:=s3
   subst s1' s3'
   have hcell:∀k,w.cell? ⟨b,k,none⟩=cs[k]?:=fun k=>by
    simp[World.cell?,hb]
   have hk:∀k:Nat,cs[k]?=cs.toList[k]?:=fun k=>by simp
   have hml:∀m:Nat,(Instr.lookup 118 (.map (some mb)) (.int .i64 (it.getD i.toNat (Ty.dflt tItem)).2.1) false).run Tryz.prog (w.drewN m)=.ok (.int .i64 (mval en' (it.getD i.toNat (Ty.dflt tItem)).2.1)) (w.drewN m):=fun m =>
    run_lookup (w:=w.drewN m) (t:=118) (by kernel_rfl) hm hmis _ false
   refine(offset_run b mb ab ab2 len cap len2 cap2 ao ao2 i _ _ _ _ w (by rw[hcell,hk,hcs];rfl) (by rw[hcell,hk,hcs];rfl) s2 ⟨i1.1,by rw[y1];exact i1.2⟩ hml ⟨i2.1,by rw[x1];exact i2.2⟩ ⟨i3.1,by rw[x1];exact i3.2⟩ s4 s5).mono ?_
   rintro e w' ⟨rfl,m,rfl⟩
   refine⟨_,K,rfl,drew_ext w K m,fun b' id hb' hk'=>?_,RV.scalar (av:=.int .i64 _) ?_ rfl rfl⟩
   rotate_left
   ·show[Value.int .i64 _]=[Value.int .i64 _]
    unfold qE
    simp only[IntKind.wrap_i64,wrap64]
   have:=hfix b' hb'
   rw[hk'] at this
   cases this
  ·cases h
 ·cases h
end Go.Proofs.YtealbjacocgjcaaGreat
end
section
namespace Go.Proofs.YtealbjacocgjcaaGreat
open Go Go.Av Go.Proofs
noncomputable def cRE10:Ctx:=baseC Tryz.prog [31,33,57,23,95,50,193,90,81,44,41,184]
theorem cRE10_good:Av.Good cRE10:=good_base (by kernel_rfl) (by kernel_rfl) (by kernel_rfl)
noncomputable def cRE11:Ctx:=cRE10.addPlain 127 (plainT qeZ qiz qgF qT)
theorem cRE11_good:Av.Good cRE11:=cRE10_good.fnP qgF qbx qiz qT 2 8 (by kernel_rfl) (fun x=>by kernel_rfl) qkU
noncomputable def cRE12:Ctx:=cRE11.addPlain 128 (plainT qfA qiZ qhf qba)
theorem cRE12_good:Av.Good cRE12:=cRE11_good.fnP qhf qcA qiZ qba 2 8 (by kernel_rfl) (fun x=>by kernel_rfl) qlj
noncomputable def cRE13:Ctx:=cRE12.addPlain 126 (plainT qe2 qis qgr qz)
theorem cRE13_good:Av.Good cRE13:=cRE12_good.fnP qgr qZ qis qz 2 8 (by kernel_rfl) (fun x=>by kernel_rfl) qk6
noncomputable def cRE14:Ctx:=cRE13.addPlain 102 (plainT qfs qi2 qg8 qN)
theorem cRE14_good:Av.Good cRE14:=cRE13_good.fnP qg8 qc2 qi2 qN 3 8 (by kernel_rfl) (fun x=>by kernel_rfl) qlA
noncomputable def cRE15:Ctx:=cRE14.addPlain 125 (plainT qe5 qiA qgt qcN)
theorem cRE15_good:Av.Good cRE15:=cRE14_good.fnP qgt qcL qiA qcN 3 8 (by kernel_rfl) (fun x=>by kernel_rfl) qk7
noncomputable def cRE16:Ctx:=cRE15.addPlain 105 (plainT qfI qi9 qg1 qd)
theorem cRE16_good:Av.Good cRE16:=cRE15_good.fnP qg1 qU qi9 qd 3 8 (by kernel_rfl) (fun x=>by kernel_rfl) qll
noncomputable def cRE17:Ctx:=cRE16.addPlain 143 (plainT qgW qt qiJ qe)
theorem cRE17_good:Av.Good cRE17:=cRE16_good.fnP qiJ qdP qt qe 2 6 (by kernel_rfl) (fun x=>by kernel_rfl) qlQ
noncomputable def cRE18:Ctx:=cRE17.addPlain 130 (plainT qeF qbe qf1 qY)
theorem cRE18_good:Av.Good cRE18:=cRE17_good.fnP qf1 qj qbe qY 4 8 (by kernel_rfl) (fun x=>by kernel_rfl) qkQ
noncomputable def cRE19:Ctx:=cRE18.addPlain 129 (plainT qgm qgg qil qgd)
theorem cRE19_good:Av.Good cRE19:=cRE18_good.fnP qil qbN qgg qgd 4 8 (by kernel_rfl) (fun x=>by kernel_rfl) qlP
noncomputable def cRE110:Ctx:=cRE19.addPlain 144 (plainT qfK qc1 qg3 qc3)
theorem cRE110_good:Av.Good cRE110:=cRE19_good.fnP qg3 qK qc1 qc3 4 8 (by kernel_rfl) (fun x=>by kernel_rfl) qlx
noncomputable def cRE111:Ctx:=cRE110.addPlain 145 (plainT qgj qhX qhU qhJ)
theorem cRE111_good:Av.Good cRE111:=cRE110_good.fnP qhU qbw qhX qhJ 4 8 (by kernel_rfl) (fun x=>by kernel_rfl) qlN
noncomputable def cRE112:Ctx:=cRE111.addPlain 131 (plainT qfc qgI qgv qgB)
theorem cRE112_good:Av.Good cRE112:=cRE111_good.fnP qgv qo qgI qgB 4 8 (by kernel_rfl) (fun x=>by kernel_rfl) qkV
noncomputable def cRE113:Ctx:=cRE112.addPlain 106 (plainT qgi qcv qhA qS)
theorem cRE113_good:Av.Good cRE113:=cRE112_good.fnP qhA qn qcv qS 4 8 (by kernel_rfl) (fun x=>by kernel_rfl) qlI
noncomputable def cRE114:Ctx:=cRE113.addPlain 103 (plainT qgn qjx qih q6)
theorem cRE114_good:Av.Good cRE114:=cRE113_good.fnP qih qjA qjx q6 4 8 (by kernel_rfl) (fun x=>by kernel_rfl) qlH
noncomputable def cRE115:Ctx:=cRE114.addPlain 110 (plainT qgV qj1 qiI qr)
theorem cRE115_good:Av.Good cRE115:=cRE114_good.fnP qiI qkF qj1 qr 2 8 (by kernel_rfl) (fun x=>by kernel_rfl) qlS
noncomputable def cRE116:Ctx:=cRE115.addPlain 135 (plainT qgO qj4 qiK qbi)
theorem cRE116_good:Av.Good cRE116:=cRE115_good.fnP qiK qkJ qj4 qbi 2 8 (by kernel_rfl) (fun x=>by kernel_rfl) qlW
noncomputable def cRE117:Ctx:=cRE116.addPlain 115 (plainT qhR qki qjn qdg)
theorem cRE117_good:Av.Good cRE117:=cRE116_good.fnP qjn qk8 qki qdg 2 8 (by kernel_rfl) (fun x=>by kernel_rfl) qma
noncomputable def cRE118:Ctx:=cRE117.addPlain 171 (plainT qie qkg qjr qdL)
theorem cRE118_good:Av.Good cRE118:=cRE117_good.fnP qjr qk1 qkg qdL 2 8 (by kernel_rfl) (fun x=>by kernel_rfl) ql1
noncomputable def cRE119:Ctx:=cRE118.addPlain 172 (plainT qeX qix qgx qcK)
theorem cRE119_good:Av.Good cRE119:=cRE118_good.fnP qgx qkb qix qcK 2 8 (by kernel_rfl) (fun x=>by kernel_rfl) qk0
noncomputable def cRE120:Ctx:=cRE119.addPlain 154 (plainT qhC qkk qjo qeA)
theorem cRE120_good:Av.Good cRE120:=cRE119_good.fnP qjo qk3 qkk qeA 2 8 (by kernel_rfl) (fun x=>by kernel_rfl) ql7
noncomputable def cRE121:Ctx:=cRE120.addPlain 155 (plainT qgN qj2 qiL qfQ)
theorem cRE121_good:Av.Good cRE121:=cRE120_good.fnP qiL qkC qj2 qfQ 2 8 (by kernel_rfl) (fun x=>by kernel_rfl) qlR
noncomputable def cRE122:Ctx:=cRE121.addPlain 77 (plainT qh0 qkm qjq qbu)
theorem cRE122_good:Av.Good cRE122:=cRE121_good.fnP qjq qlg qkm qbu 2 8 (by kernel_rfl) (fun x=>by kernel_rfl) qmc
noncomputable def cRE123:Ctx:=cRE122.addPlain 169 (plainT qh1 qkf qju qeC)
theorem cRE123_good:Av.Good cRE123:=cRE122_good.fnP qju qlb qkf qeC 2 8 (by kernel_rfl) (fun x=>by kernel_rfl) ql8
noncomputable def cRE124:Ctx:=cRE123.addPlain 170 (plainT qiW qky qjN qez)
theorem cRE124_good:Av.Good cRE124:=cRE123_good.fnP qjN qlB qky qez 2 8 (by kernel_rfl) (fun x=>by kernel_rfl) qmj
noncomputable def cRE125:Ctx:=cRE124.addPlain 134 (plainT qhM qkp qjf qdj)
theorem cRE125_good:Av.Good cRE125:=cRE124_good.fnP qjf qle qkp qdj 2 8 (by kernel_rfl) (fun x=>by kernel_rfl) ql0
noncomputable def cRE126:Ctx:=cRE125.addPlain 165 (plainT qh7 qko qjl qgs)
theorem cRE126_good:Av.Good cRE126:=cRE125_good.fnP qjl qkT qko qgs 2 8 (by kernel_rfl) (fun x=>by kernel_rfl) qmb
noncomputable def cRE127:Ctx:=cRE126.addPlain 166 (plainT qif qhD qjt qeq)
theorem cRE127_good:Av.Good cRE127:=cRE126_good.fnP qjt qk9 qhD qeq 2 8 (by kernel_rfl) (fun x=>by kernel_rfl) qme
noncomputable def cRE128:Ctx:=cRE127.addPlain 167 (plainT qhZ qkj qji qic)
theorem cRE128_good:Av.Good cRE128:=cRE127_good.fnP qji qkW qkj qic 2 8 (by kernel_rfl) (fun x=>by kernel_rfl) qmf
noncomputable def cRE129:Ctx:=cRE128.addPlain 168 (plainT qij qkn qjk qhL)
theorem cRE129_good:Av.Good cRE129:=cRE128_good.fnP qjk qld qkn qhL 2 8 (by kernel_rfl) (fun x=>by kernel_rfl) ql9
noncomputable def cRE130:Ctx:=cRE129.addPlain 164 (plainT qfM qi0 qg7 qfD)
theorem cRE130_good:Av.Good cRE130:=cRE129_good.fnP qg7 qks qi0 qfD 2 8 (by kernel_rfl) (fun x=>by kernel_rfl) qly
noncomputable def cRE131:Ctx:=cRE130.addPlain 173 (plainT qhy qkr qjv qgJ)
theorem cRE131_good:Av.Good cRE131:=cRE130_good.fnP qjv qk4 qkr qgJ 2 8 (by kernel_rfl) (fun x=>by kernel_rfl) ql2
noncomputable def cRE132:Ctx:=cRE131.addPlain 150 (plainT qgM qj3 qiD qdO)
theorem cRE132_good:Av.Good cRE132:=cRE131_good.fnP qiD qiF qj3 qdO 2 8 (by kernel_rfl) (fun x=>by kernel_rfl) qlX
noncomputable def cRE133:Ctx:=cRE132.addPlain 139 (plainT qh2 qkh qjj qb5)
theorem cRE133_good:Av.Good cRE133:=cRE132_good.fnP qjj qgu qkh qb5 2 8 (by kernel_rfl) (fun x=>by kernel_rfl) ql6
noncomputable def cRE134:Ctx:=cRE133.addLoop 137 2 qek.toT.toLoop
theorem cRE134_good:Av.Good cRE134:=cRE133_good.loopN qek 2 8 (by kernel_rfl) (fun _ _=>rfl) (fun x y s m K=>by kernel_rfl) (fun x y s s' K e=>by kernel_rfl)
noncomputable def cRE135:Ctx:=cRE134.addPlain 137 (plainT qgP qdQ qiM qW)
theorem cRE135_good:Av.Good cRE135:=cRE134_good.fnP qiM qjY qdQ qW 2 8 (by kernel_rfl) (fun x=>by kernel_rfl) qlU
noncomputable def cRE136:Ctx:=cRE135.addPlain 151 (plainT qgp qcX qhQ qd5)
theorem cRE136_good:Av.Good cRE136:=cRE135_good.fnP qhQ qjH qcX qd5 2 8 (by kernel_rfl) (fun x=>by kernel_rfl) qlG
noncomputable def cRE137:Ctx:=cRE136.addPlain 152 (plainT qfN qi4 qg5 qfw)
theorem cRE137_good:Av.Good cRE137:=cRE136_good.fnP qg5 qfE qi4 qfw 2 8 (by kernel_rfl) (fun x=>by kernel_rfl) qlu
noncomputable def cRE138:Ctx:=cRE137.addPlain 153 (plainT qiU qkv qjQ qiT)
theorem cRE138_good:Av.Good cRE138:=cRE137_good.fnP qjQ qiQ qkv qiT 2 8 (by kernel_rfl) (fun x=>by kernel_rfl) qmg
noncomputable def cRE139:Ctx:=cRE138.addPlain 156 (plainT qfG qi5 qhj qcZ)
theorem cRE139_good:Av.Good cRE139:=cRE138_good.fnP qhj qho qi5 qcZ 2 8 (by kernel_rfl) (fun x=>by kernel_rfl) qlt
noncomputable def cRE140:Ctx:=cRE139.addPlain 140 (plainT qgY qgX qiH qfP)
theorem cRE140_good:Av.Good cRE140:=cRE139_good.fnP qiH qfO qgX qfP 2 8 (by kernel_rfl) (fun x=>by kernel_rfl) qlZ
noncomputable def cRE141:Ctx:=cRE140.addPlain 116 (plainT qgq qch qid qc)
theorem cRE141_good:Av.Good cRE141:=cRE140_good.fnP qid qga qch qc 2 8 (by kernel_rfl) (fun x=>by kernel_rfl) qlJ
noncomputable def cRE142:Ctx:=cRE141.addPlain 119 (plainT qh9 qbZ qjs qB)
theorem cRE142_good:Av.Good cRE142:=cRE141_good.fnP qjs qjp qbZ qB 2 8 (by kernel_rfl) (fun x=>by kernel_rfl) ql3
noncomputable def cRE143:Ctx:=cRE142.addPlain 118 (plainT qf7 qbr qhT qbg)
theorem cRE143_good:Av.Good cRE143:=cRE142_good.fnP qhT qhG qbr qbg 2 8 (by kernel_rfl) (fun x=>by kernel_rfl) qlK
noncomputable def cRE144:Ctx:=cRE143.addPlain 53 (plainT qeT qiv qgz qH)
theorem cRE144_good:Av.Good cRE144:=cRE143_good.fnP qgz qdS qiv qH 2 8 (by kernel_rfl) (fun x=>by kernel_rfl) qkZ
noncomputable def cRE145:Ctx:=cRE144.addPlain 157 (plainT qf5 qjB qii qdX)
theorem cRE145_good:Av.Good cRE145:=cRE144_good.fnP qii qhK qjB qdX 2 8 (by kernel_rfl) (fun x=>by kernel_rfl) qlF
noncomputable def cRE146:Ctx:=cRE145.addLoop 141 6 qen.toT.toLoop
theorem cRE146_good:Av.Good cRE146:=cRE145_good.loopN qen 2 8 (by kernel_rfl) (fun _ _=>rfl) (fun x y s m K=>by kernel_rfl) (fun x y s s' K e=>by kernel_rfl)
noncomputable def cRE147:Ctx:=cRE146.addPlain 141 (plainT qfx qdC qhc qm)
theorem cRE147_good:Av.Good cRE147:=cRE146_good.fnP qhc qja qdC qm 2 8 (by kernel_rfl) (fun x=>by kernel_rfl) qlo
noncomputable def cRE148:Ctx:=cRE147.addPlain 74 (plainT qgh qjG qhE qD)
theorem cRE148_good:Av.Good cRE148:=cRE147_good.fnP qhE qik qjG qD 2 8 (by kernel_rfl) (fun x=>by kernel_rfl) qlO
noncomputable def cRE149:Ctx:=cRE148.addLoop 91 6 qdf.toT.toLoop
theorem cRE149_good:Av.Good cRE149:=cRE148_good.loopN qdf 2 8 (by kernel_rfl) (fun _ _=>rfl) (fun x y s m K=>by kernel_rfl) (fun x y s s' K e=>by kernel_rfl)
noncomputable def cRE150:Ctx:=cRE149.addBody 91 (bodyT qcG qcH qdH qe8 qbl ql)
theorem cRE150_good:Av.Good cRE150:=cRE149_good.fnB qdH qfl qbl ql 2 8 (by kernel_rfl) (fun x y=>by kernel_rfl) qj6
noncomputable def cRE151:Ctx:=cRE150.addBody 138 (bodyT qcp qco qdp qeH qbp qw)
theorem cRE151_good:Av.Good cRE151:=cRE150_good.fnB qdp qe1 qbp qw 2 8 (by kernel_rfl) (fun x y=>by kernel_rfl) qjU
noncomputable def cRE152:Ctx:=cRE151.addBody 92 (bodyT qcf qb8 qde qeb qeN qby)
theorem cRE152_good:Av.Good cRE152:=cRE151_good.fnB qde qgQ qeN qby 2 8 (by kernel_rfl) (fun x y=>by kernel_rfl) qjM
noncomputable def cRE153:Ctx:=cRE152.addPlain 112 (plainT qdZ qhp qfk qI)
theorem cRE153_good:Av.Good cRE153:=cRE152_good.fnP qfk qdV qhp qI 2 8 (by kernel_rfl) (fun x=>by kernel_rfl) qkA
noncomputable def cRE154:Ctx:=cRE153.addLoop 76 8 qe9.toT.toLoop
theorem cRE154_good:Av.Good cRE154:=cRE153_good.loopN qe9 2 8 (by kernel_rfl) (fun _ _=>rfl) (fun x y s m K=>by kernel_rfl) (fun x y s s' K e=>by kernel_rfl)
noncomputable def cRE155:Ctx:=cRE154.addLoop 76 15 qes.toT.toLoop
theorem cRE155_good:Av.Good cRE155:=cRE154_good.loopN qes 2 8 (by kernel_rfl) (fun _ _=>rfl) (fun x y s m K=>by kernel_rfl) (fun x y s s' K e=>by kernel_rfl)
noncomputable def cRE156:Ctx:=cRE155.addPlain 107 (plainT qgk qjF qia qR)
theorem cRE156_good:Av.Good cRE156:=cRE155_good.fnP qia qhV qjF qR 2 8 (by kernel_rfl) (fun x=>by kernel_rfl) qlD
noncomputable def cRE157:Ctx:=cRE156.addPlain 69 (plainT qeU qda qgG q7)
theorem cRE157_good:Av.Good cRE157:=cRE156_good.fnP qgG qbd qda q7 2 8 (by kernel_rfl) (fun x=>by kernel_rfl) qk5
noncomputable def cRE158:Ctx:=cRE157.addPlain 158 (plainT qfu qh qhg qb)
theorem cRE158_good:Av.Good cRE158:=cRE157_good.fnP qhg qhi qh qb 2 8 (by kernel_rfl) (fun x=>by kernel_rfl) qln
noncomputable def cRE159:Ctx:=cRE158.addPlain 148 (plainT qfF q0 qhn qV)
theorem cRE159_good:Av.Good cRE159:=cRE158_good.fnP qhn qhk q0 qV 2 8 (by kernel_rfl) (fun x=>by kernel_rfl) qlz
noncomputable def cRE160:Ctx:=cRE159.addPlain 159 (plainT qew q8 qf2 qO)
theorem cRE160_good:Av.Good cRE160:=cRE159_good.fnP qf2 qet q8 qO 2 8 (by kernel_rfl) (fun x=>by kernel_rfl) qkN
noncomputable def cRE161:Ctx:=cRE160.addLoop 174 2 qbs.toT.toLoop
theorem cRE161_good:Av.Good cRE161:=cRE160_good.loopN qbs 2 8 (by kernel_rfl) (fun _ _=>rfl) (fun x y s m K=>by kernel_rfl) (fun x y s s' K e=>by kernel_rfl)
noncomputable def cRE162:Ctx:=cRE161.addPlain 174 (plainT qft qy qhb qG)
theorem cRE162_good:Av.Good cRE162:=cRE161_good.fnP qhb qi7 qy qG 2 8 (by kernel_rfl) (fun x=>by kernel_rfl) qlw
noncomputable def cRE163:Ctx:=cRE162.addPlain 146 (plainT qfr qi3 qg9 qbb)
theorem cRE163_good:Av.Good cRE163:=cRE162_good.fnP qg9 qi1 qi3 qbb 2 8 (by kernel_rfl) (fun x=>by kernel_rfl) qlq
noncomputable def cRE164:Ctx:=cRE163.addPlain 147 (plainT qey qcO qfU qbj)
theorem cRE164_good:Av.Good cRE164:=cRE163_good.fnP qfU qdq qcO qbj 2 12 (by kernel_rfl) (fun x=>by kernel_rfl) qkO
noncomputable def cRE165:Ctx:=cRE164.addPlain 160 (plainT qeS qdb qgy qbq)
theorem cRE165_good:Av.Good cRE165:=cRE164_good.fnP qgy qdT qdb qbq 3 12 (by kernel_rfl) (fun x=>by kernel_rfl) qlf
noncomputable def cRE166:Ctx:=cRE165.addPlain 161 (plainT qd2 qcC qff qbf)
theorem cRE166_good:Av.Good cRE166:=cRE165_good.fnP qff qc9 qcC qbf 2 12 (by kernel_rfl) (fun x=>by kernel_rfl) qkB
noncomputable def cRE167:Ctx:=cRE166.addPlain 162 (plainT qfd qc8 qgC qbo)
theorem cRE167_good:Av.Good cRE167:=cRE166_good.fnP qgC qdU qc8 qbo 2 12 (by kernel_rfl) (fun x=>by kernel_rfl) qla
noncomputable def cRE168:Ctx:=cRE167.addPlain 163 (plainT qeu qcW qfZ qbm)
theorem cRE168_good:Av.Good cRE168:=cRE167_good.fnP qfZ qdo qcW qbm 2 12 (by kernel_rfl) (fun x=>by kernel_rfl) qkP
noncomputable def cRE169:Ctx:=cRE168.addPlain 149 (plainT qfL qej qg2 qdB)
theorem cRE169_good:Av.Good cRE169:=cRE168_good.fnP qg2 qei qej qdB 2 12 (by kernel_rfl) (fun x=>by kernel_rfl) qls
noncomputable def cRE170:Ctx:=cRE169.addPlain 136 (plainT qel qdx qfX qk)
theorem cRE170_good:Av.Good cRE170:=cRE169_good.fnP qfX qdv qdx qk 2 12 (by kernel_rfl) (fun x=>by kernel_rfl) qkR
noncomputable def cRE171:Ctx:=cRE170.addPlain 113 (plainT qgU qiG qiE qeP)
theorem cRE171_good:Av.Good cRE171:=cRE170_good.fnP qiE qkD qiG qeP 2 8 (by kernel_rfl) (fun x=>by kernel_rfl) qlY
noncomputable def cRE172:Ctx:=cRE171.addPlain 10 (plainT qer qhS qfY qu)
theorem cRE172_good:Av.Good cRE172:=cRE171_good.fnP qfY qev qhS qu 2 8 (by kernel_rfl) (fun x=>by kernel_rfl) qkM
noncomputable def cRE173:Ctx:=cRE172.addBody 78 (bodyT qcx qcl qds qeL qbM qdA)
theorem cRE173_good:Av.Good cRE173:=cRE172_good.fnB qds qe6 qbM qdA 3 8 (by kernel_rfl) (fun x y=>by kernel_rfl) qjS
noncomputable def cRE174:Ctx:=cRE173.addCut 114 5 qbv.toT.toLoop
theorem cRE174_good:Av.Good cRE174:=cRE173_good.cutN qbv 2 8 (by kernel_rfl) (fun _ _=>rfl) (fun x y K=>by kernel_rfl)
noncomputable def cRE175:Ctx:=cRE174.addBody 41 (bodyT qb9 qb7 qdd qec qeG qeM)
theorem cRE175_good:Av.Good cRE175:=cRE174_good.fnB qdd qgT qeG qeM 2 8 (by kernel_rfl) (fun x y=>by kernel_rfl) qjK
noncomputable def cRE176:Ctx:=cRE175.addBody 43 (bodyT qbV qbU qc6 qdW qd9 qef)
theorem cRE176_good:Av.Good cRE176:=cRE175_good.fnB qc6 qgK qd9 qef 2 8 (by kernel_rfl) (fun x y=>by kernel_rfl) qjI
noncomputable def cRE177:Ctx:=cRE176.addBody 50 (bodyT qbB qbA qcT qdI qbO qd4)
theorem cRE177_good:Av.Good cRE177:=cRE176_good.fnB qcT qf3 qbO qd4 3 8 (by kernel_rfl) (fun x y=>by kernel_rfl) qjh
noncomputable def cRE178:Ctx:=cRE177.addBody 51 (bodyT qbS qbT qc5 qd1 qeg qed)
theorem cRE178_good:Av.Good cRE178:=cRE177_good.fnB qc5 qgL qeg qed 3 8 (by kernel_rfl) (fun x y=>by kernel_rfl) qjy
noncomputable def cRE179:Ctx:=cRE178.addBody 42 (evStep cRE178 drawOk 8 4 42 79 148)
theorem cRE179_good:Av.Good cRE179:=cRE178_good.addBody (step_ok cRE178_good (by kernel_rfl) 8 4) (by kernel_rfl)
noncomputable def cRE180:Ctx:=cRE179.addBody 42 (bodyT qcd qcb qdh qee qbc qi)
theorem cRE180_good:Av.Good cRE180:=cRE179_good.fnB qdh qeQ qbc qi 2 8 (by kernel_rfl) (fun x y=>by kernel_rfl) qjL
noncomputable def cRE181:Ctx:=cRE180.addLoop 48 2 qgb.toT.toLoop
theorem cRE181_good:Av.Good cRE181:=cRE180_good.loopN qgb 3 8 (by kernel_rfl) (fun _ _=>rfl) (fun x y s m K=>by kernel_rfl) (fun x y s s' K e=>by kernel_rfl)
noncomputable def cRE182:Ctx:=cRE181.addBody 48 (bodyT qbR qbW qc4 qd7 qc7 qd8)
theorem cRE182_good:Av.Good cRE182:=cRE181_good.fnB qc4 qea qc7 qd8 3 8 (by kernel_rfl) (fun x y=>by kernel_rfl) qjC
noncomputable def cRE183:Ctx:=cRE182.addPlain 133 (plainT qiR qge qjP qhv)
theorem cRE183_good:Av.Good cRE183:=cRE182_good.fnP qjP qgf qge qhv 2 8 (by kernel_rfl) (fun x=>by kernel_rfl) qmi
noncomputable def cRE184:Ctx:=cRE183.addPlain 109 (plainT qfB qjb qg4 qbY)
theorem cRE184_good:Av.Good cRE184:=cRE183_good.fnP qg4 qhm qjb qbY 2 8 (by kernel_rfl) (fun x=>by kernel_rfl) qlp
noncomputable def cRE185:Ctx:=cRE184.addPlain 111 (plainT qh3 qb3 qjm qx)
theorem cRE185_good:Av.Good cRE185:=cRE184_good.fnP qjm qfm qb3 qx 2 8 (by kernel_rfl) (fun x=>by kernel_rfl) ql4
noncomputable def cRE186:Ctx:=cRE185.addPlain 72 (plainT qfC qi6 qhl qM)
theorem cRE186_good:Av.Good cRE186:=cRE185_good.fnP qhl qeh qi6 qM 3 8 (by kernel_rfl) (fun x=>by kernel_rfl) qlm
noncomputable def cRE187:Ctx:=cRE186.addPlain 73 (plainT qfz qi8 qhe qq)
theorem cRE187_good:Av.Good cRE187:=cRE186_good.fnP qhe qhd qi8 qq 2 20 (by kernel_rfl) (fun x=>by kernel_rfl) qlv
noncomputable def cRE188:Ctx:=cRE187.addLoop 75 7 qeB.toT.toLoop
theorem cRE188_good:Av.Good cRE188:=cRE187_good.loopN qeB 3 8 (by kernel_rfl) (fun _ _=>rfl) (fun x y s m K=>by kernel_rfl) (fun x y s s' K e=>by kernel_rfl)
noncomputable def cRE189:Ctx:=cRE188.addPlain 75 (plainT qfy qg0 qhh qL)
theorem cRE189_good:Av.Good cRE189:=cRE188_good.fnP qhh qg6 qg0 qL 4 8 (by kernel_rfl) (fun x=>by kernel_rfl) qlr
noncomputable def cRE190:Ctx:=cRE189.addCut 21 12 qdE.toT.toLoop
theorem cRE190_good:Av.Good cRE190:=cRE189_good.cutN qdE 6 12 (by kernel_rfl) (fun _ _=>rfl) (fun x y K=>by kernel_rfl)
noncomputable def cRE191:Ctx:=cRE190.addPlain 21 (plainT qfJ qjd qgZ qF)
theorem cRE191_good:Av.Good cRE191:=cRE190_good.fnP qgZ qje qjd qF 6 12 (by kernel_rfl) (fun x=>by kernel_rfl) qli
noncomputable def cRE192:Ctx:=cRE191.addPlain 104 (plainT qf4 qd3 qhP qd0)
theorem cRE192_good:Av.Good cRE192:=cRE191_good.fnP qhP qf9 qd3 qd0 2 8 (by kernel_rfl) (fun x=>by kernel_rfl) qlE
noncomputable def cRE193:Ctx:=cRE192.addPlain 142 (plainT qgc qjE qh6 qdl)
theorem cRE193_good:Av.Good cRE193:=cRE192_good.fnP qh6 qfb qjE qdl 2 8 (by kernel_rfl) (fun x=>by kernel_rfl) qlL
noncomputable def cRE194:Ctx:=cRE193.addPlain 124 (plainT qhF qkq qjw qcz)
theorem cRE194_good:Av.Good cRE194:=cRE193_good.fnP qjw qgH qkq qcz 2 8 (by kernel_rfl) (fun x=>by kernel_rfl) ql5
noncomputable def cRE195:Ctx:=cRE194.addLoop 67 3 qgR.toT.toLoop
theorem cRE195_good:Av.Good cRE195:=cRE194_good.loopN qgR 2 8 (by kernel_rfl) (fun _ _=>rfl) (fun x y s m K=>by kernel_rfl) (fun x y s s' K e=>by kernel_rfl)
noncomputable def cRE196:Ctx:=cRE195.addPlain 67 (plainT qiN qfe qjO qeD)
theorem cRE196_good:Av.Good cRE196:=cRE195_good.fnP qjO qiP qfe qeD 2 8 (by kernel_rfl) (fun x=>by kernel_rfl) qmh
noncomputable def cRE197:Ctx:=cRE196.addLoop 101 3 qca.toT.toLoop
theorem cRE197_good:Av.Good cRE197:=cRE196_good.loopN qca 2 8 (by kernel_rfl) (fun _ _=>rfl) (fun x y s m K=>by kernel_rfl) (fun x y s s' K e=>by kernel_rfl)
noncomputable def cRE198:Ctx:=cRE197.addLoop 99 2 qcg.toT.toLoop
theorem cRE198_good:Av.Good cRE198:=cRE197_good.loopN qcg 2 8 (by kernel_rfl) (fun _ _=>rfl) (fun x y s m K=>by kernel_rfl) (fun x y s s' K e=>by kernel_rfl)
noncomputable def cRE199:Ctx:=cRE198.addLoop 99 8 qb6.toT.toLoop
theorem cRE199_good:Av.Good cRE199:=cRE198_good.loopN qb6 2 8 (by kernel_rfl) (fun _ _=>rfl) (fun x y s m K=>by kernel_rfl) (fun x y s s' K e=>by kernel_rfl)
noncomputable def cRE1100:Ctx:=cRE199.addLoop 100 2 qce.toT.toLoop
theorem cRE1100_good:Av.Good cRE1100:=cRE199_good.loopN qce 2 8 (by kernel_rfl) (fun _ _=>rfl) (fun x y s m K=>by kernel_rfl) (fun x y s s' K e=>by kernel_rfl)
noncomputable def cRE1101:Ctx:=cRE1100.addLoop 100 11 qbX.toT.toLoop
theorem cRE1101_good:Av.Good cRE1101:=cRE1100_good.loopN qbX 2 8 (by kernel_rfl) (fun _ _=>rfl) (fun x y s m K=>by kernel_rfl) (fun x y s s' K e=>by kernel_rfl)
noncomputable def cRE1102:Ctx:=cRE1101.addBody 70 body_WriteString
theorem cRE1102_good:Av.Good cRE1102:=cRE1101_good.addBody write_body (by kernel_rfl)
noncomputable def cRE1103:Ctx:=cRE1102.addBody 71 body_String
theorem cRE1103_good:Av.Good cRE1103:=cRE1102_good.addBody string_body (by kernel_rfl)
noncomputable def cRE1104:Ctx:=cRE1103.addPlain 68 snap_asm_assembler_offset
theorem cRE1104_good:Av.Good cRE1104:=cRE1103_good.addSnap offset_plain (by kernel_rfl) offset_snap
noncomputable def cRE1105:Ctx:=cRE1104.addBody 99 (bodyT qci qcn qdt qeR qbK qa)
theorem cRE1105_good:Av.Good cRE1105:=cRE1104_good.fnB qdt qcJ qbK qa 3 8 (by kernel_rfl) (fun x y=>by kernel_rfl) qjR
noncomputable def cRE1106:Ctx:=cRE1105.addBody 100 (bodyT qck qcs qdy qeI qbL qf)
theorem cRE1106_good:Av.Good cRE1106:=cRE1105_good.fnB qdy qcI qbL qf 3 8 (by kernel_rfl) (fun x y=>by kernel_rfl) qj0
noncomputable def cRE1107:Ctx:=cRE1106.addBody 101 (bodyT qcw qcr qdw qeO qbF qC)
theorem cRE1107_good:Av.Good cRE1107:=cRE1106_good.fnB qdw qbG qbF qC 3 8 (by kernel_rfl) (fun x y=>by kernel_rfl) qjV
noncomputable def cRE1108:Ctx:=cRE1107.addBody 65 (bodyT qcm qcu qdu qeK qbE qbI)
theorem cRE1108_good:Av.Good cRE1108:=cRE1107_good.fnB qdu qbD qbE qbI 4 8 (by kernel_rfl) (fun x y=>by kernel_rfl) qjZ
noncomputable def cRE1109:Ctx:=cRE1108.addLoop 66 4 qcc.toT.toLoop
theorem cRE1109_good:Av.Good cRE1109:=cRE1108_good.loopN qcc 2 8 (by kernel_rfl) (fun _ _=>rfl) (fun x y s m K=>by kernel_rfl) (fun x y s s' K e=>by kernel_rfl)
noncomputable def cRE1110:Ctx:=cRE1109.addBody 66 (bodyT qct qcj qdr qeJ qbH qv)
theorem cRE1110_good:Av.Good cRE1110:=cRE1109_good.fnB qdr qbJ qbH qv 3 8 (by kernel_rfl) (fun x y=>by kernel_rfl) qjX
noncomputable def cRE1111:Ctx:=cRE1110.addLoop 38 5 qd6.toT.toLoop
theorem cRE1111_good:Av.Good cRE1111:=cRE1110_good.loopN qd6 3 8 (by kernel_rfl) (fun _ _=>rfl) (fun x y s m K=>by kernel_rfl) (fun x y s s' K e=>by kernel_rfl)
noncomputable def cRE1112:Ctx:=cRE1111.addLoop 38 10 qdD.toT.toLoop
theorem cRE1112_good:Av.Good cRE1112:=cRE1111_good.loopN qdD 3 8 (by kernel_rfl) (fun _ _=>rfl) (fun x y s m K=>by kernel_rfl) (fun x y s s' K e=>by kernel_rfl)
noncomputable def cRE1113:Ctx:=cRE1112.addPlain 38 (plainT qeV qdc qgD q9)
theorem cRE1113_good:Av.Good cRE1113:=cRE1112_good.fnP qgD qcE qdc q9 3 8 (by kernel_rfl) (fun x=>by kernel_rfl) qk2
noncomputable def cRE1114:Ctx:=cRE1113.addPlain 32 (plainT qkz qjz qkw qjD)
theorem cRE1114_good:Av.Good cRE1114:=cRE1113_good.fnP qkw qkx qjz qjD 3 8 (by kernel_rfl) (fun x=>by kernel_rfl) qlC
noncomputable def cRE1115:Ctx:=cRE1114.addPlain 88 (plainT qe3 qir qka qgA)
theorem cRE1115_good:Av.Good cRE1115:=cRE1114_good.fnP qka qiw qir qgA 3 8 (by kernel_rfl) (fun x=>by kernel_rfl) qlc
noncomputable def cRE1116:Ctx:=cRE1115.addPlain 45 (plainT qe0 qit qkc qcD)
theorem cRE1116_good:Av.Good cRE1116:=cRE1115_good.fnP qkc qiy qit qcD 8 12 (by kernel_rfl) (fun x=>by kernel_rfl) qkX
noncomputable def cRE1117:Ctx:=cRE1116.addPlain 55 (plainT qgS qj5 qkI qjW)
theorem cRE1117_good:Av.Good cRE1117:=cRE1116_good.fnP qkI qkG qj5 qjW 8 12 (by kernel_rfl) (fun x=>by kernel_rfl) qlV
noncomputable def cRE1118:Ctx:=cRE1117.addLoop 52 2 qbt.toT.toLoop
theorem cRE1118_good:Av.Good cRE1118:=cRE1117_good.loopN qbt 3 8 (by kernel_rfl) (fun _ _=>rfl) (fun x y s m K=>by kernel_rfl) (fun x y s s' K e=>by kernel_rfl)
noncomputable def cRE1119:Ctx:=cRE1118.addPlain 52 (plainT qeW qb0 qj8 qJ)
theorem cRE1119_good:Av.Good cRE1119:=cRE1118_good.fnP qj8 qiB qb0 qJ 3 8 (by kernel_rfl) (fun x=>by kernel_rfl) qkY
noncomputable def cRE1120:Ctx:=cRE1119.addPlain 22 (plainT qem qdm qfV qcY)
theorem cRE1120_good:Av.Good cRE1120:=cRE1119_good.fnP qfV qdz qdm qcY 3 8 (by kernel_rfl) (fun x=>by kernel_rfl) qkK
noncomputable def cRE1121:Ctx:=cRE1120.addPlain 24 (plainT qf8 qjJ qib qdY)
theorem cRE1121_good:Av.Good cRE1121:=cRE1120_good.fnP qib qf6 qjJ qdY 4 8 (by kernel_rfl) (fun x=>by kernel_rfl) qlM
noncomputable def cRE1122:Ctx:=cRE1121.addPlain 23 (plainT qep qhz qfW qhI)
theorem cRE1122_good:Av.Good cRE1122:=cRE1121_good.fnP qfW qf0 qhz qhI 4 8 (by kernel_rfl) (fun x=>by kernel_rfl) qkS
noncomputable def cRE1123:Ctx:=cRE1122.addPlain 29 (plainT qeY qiC qgE qiu)
theorem cRE1123_good:Av.Good cRE1123:=cRE1122_good.fnP qgE qgw qiC qiu 3 8 (by kernel_rfl) (fun x=>by kernel_rfl) qlh
noncomputable def cRE1124:Ctx:=cRE1123.addPlain 19 (plainT qcP qfi qh5 qfg)
theorem cRE1124_good:Av.Good cRE1124:=cRE1123_good.fnP qh5 qhO qfi qfg 9 12 (by kernel_rfl) (fun x=>by kernel_rfl) qkd
noncomputable def cRE1125:Ctx:=cRE1124.addPlain 26 (plainT qcR qfn qhN qfh)
theorem cRE1125_good:Av.Good cRE1125:=cRE1124_good.fnP qhN qhB qfn qfh 9 12 (by kernel_rfl) (fun x=>by kernel_rfl) qke
noncomputable def cRE1126:Ctx:=cRE1125.addLoop 39 6 qdn.toT.toLoop
theorem cRE1126_good:Av.Good cRE1126:=cRE1125_good.loopN qdn 4 8 (by kernel_rfl) (fun _ _=>rfl) (fun x y s m K=>by kernel_rfl) (fun x y s s' K e=>by kernel_rfl)
noncomputable def cRE1127:Ctx:=cRE1126.addPlain 39 (plainT qfv qfH qha qc0)
theorem cRE1127_good:Av.Good cRE1127:=cRE1126_good.fnP qha qjc qfH qc0 4 8 (by kernel_rfl) (fun x=>by kernel_rfl) qlk
noncomputable def cRE1128:Ctx:=cRE1127.addOwn 46
theorem cRE1128_good:Av.Good cRE1128:=cRE1127_good.addOwn 46
noncomputable def cRE1129:Ctx:=cRE1128.addLoop 20 3 qbz.toT.toLoop
theorem cRE1129_good:Av.Good cRE1129:=cRE1128_good.loopN qbz 4 8 (by kernel_rfl) (fun _ _=>rfl) (fun x y s m K=>by kernel_rfl) (fun x y s s' K e=>by kernel_rfl)
noncomputable def cRE1130:Ctx:=cRE1129.addLoop 47 4 qcq.toT.toLoop
theorem cRE1130_good:Av.Good cRE1130:=cRE1129_good.loopN qcq 3 8 (by kernel_rfl) (fun _ _=>rfl) (fun x y s m K=>by kernel_rfl) (fun x y s s' K e=>by kernel_rfl)
noncomputable def cRE1131:Ctx:=cRE1130.addPlain 47 (plainT qcQ qbn qdJ qQ)
theorem cRE1131_good:Av.Good cRE1131:=cRE1130_good.fnP qdJ qb1 qbn qQ 4 8 (by kernel_rfl) (fun x=>by kernel_rfl) qj9
noncomputable def cRE1132:Ctx:=cRE1131.addPlain 18 (plainT qdk qgo qex qcF)
theorem cRE1132_good:Av.Good cRE1132:=cRE1131_good.fnP qex qeE qgo qcF 3 8 (by kernel_rfl) (fun x=>by kernel_rfl) qkt
noncomputable def cRE1133:Ctx:=cRE1132.addPlain 20 (plainT qcU qb2 qdF qp)
theorem cRE1133_good:Av.Good cRE1133:=cRE1132_good.fnP qdF qb4 qb2 qp 4 8 (by kernel_rfl) (fun x=>by kernel_rfl) qj7
noncomputable def cRE1:Ctx:=cRE1133
theorem cRE1_good:Av.Good cRE1:=cRE1133_good
end Go.Proofs.YtealbjacocgjcaaGreat
end
section
namespace Go.Av
open Go
theorem may_facts {i o r:Int} (h:qcF (i,o,r,())=true):i=0∧∃mo mr:Nat,o=((4*mo:Nat):Int)∧r=((4*mr:Nat):Int)∧mo≤20∧1≤mr∧mr≤30:=by
 have h:(i==0&&(decide (o≥0)&&(decide (o≤80)&&(decide (r≥4)&&(decide (r≤120)&&(Int.tmod o 4==0&&Int.tmod r 4==0))))))=true:=h
 simp only[Bool.and_eq_true,decide_eq_true_eq,beq_iff_eq] at h
 obtain⟨h1,h2,h3,h4,h5,h6,h7⟩:=h
 rw[Int.tmod_eq_emod_of_nonneg (by omega)] at h6 h7
 exact⟨h1,(o / 4).toNat,(r / 4).toNat,by omega,by omega,by omega,by omega,by omega⟩
theorem hand_code (o r:Nat) (tw:Bool):CodeOk (handH o r tw):=by
 refine⟨hand_all o r tw,?_,?_,?_,?_⟩
 ·rw[hand_labs]
  decide
 ·rw[hand_labs]
  decide
 ·have:=handP_len o r tw
  unfold handP at this
  rw[hand_cnt,this]
  cases tw<;>decide
 ·rw[hand_len]
  cases tw<;>decide
theorem dirty_val (mo mr:Nat) (l:List tStore.den) (tw:Bool) (h1:mo≤20) (h2:1≤mr∧mr≤30) :
  qb2 (((0:Int),((4*mo:Nat):Int),((4*mr:Nat):Int),()),l,tw)=true ∧
  qp (((0:Int),((4*mo:Nat):Int),((4*mr:Nat):Int),()),l,tw) =
   (qQ (its (putsI ((0:Int),((4*mo:Nat):Int),((4*mr:Nat):Int),()) (l.take 40))++handH (4*mo) (4*mr) tw,((0:Int),((4*mo:Nat):Int),((4*mr:Nat):Int),()),0),(((putsI ((0:Int),((4*mo:Nat):Int),((4*mr:Nat):Int),()) (l.take 40)).length:Nat):Int),()):=by
 generalize hsz:(((0:Int),((4*mo:Nat):Int),((4*mr:Nat):Int),()):tSizes.den)=sz
 have hlen:=puts_len sz (l.take 40)
 rw[List.length_take] at hlen
 have hpl:(putsL sz (l.take 40)).length=(putsI sz (l.take 40)).length:=by
  rw[puts_its]
  unfold its
  rw[List.length_map]
 have hhl:=hand_len (4*mo) (4*mr) tw
 have hhl2:(handH (4*mo) (4*mr) tw).length≤120:=by rw[hhl];cases tw<;>decide
 have hV:qcD (sz,tw,0,1)=handH (4*mo) (4*mr) tw:=by rw[←hsz];rfl
 obtain⟨g,_⟩:=img_part (pre:=putsI sz (l.take 40)) (H:=handH (4*mo) (4*mr) tw) (puts_opK sz _) (by omega) (hand_code _ _ _) (4*mo) (4*mr) (by omega) (by omega) (by omega) (by omega)
 rw[hsz] at g
 have hT:(qb4 (sz,l,tw)).val=some (qQ (its (putsI sz (l.take 40))++handH (4*mo) (4*mr) tw,sz,0),(((putsI sz (l.take 40)).length:Nat):Int),()):=by
  unfold qb4
  refine(val_opt (dirty_loop l tw sz)).trans ?_
  dsimp only
  rw[hV,puts_its]
  refine(val_yes ?_).trans ((val_yes g).trans ?_)
  ·rw[Nat.ble_eq]
   have:(its (putsI sz (l.take 40))).length=(putsI sz (l.take 40)).length:=by unfold its;rw[List.length_map]
   omega
  ·have:lenI (its (putsI sz (l.take 40)))=(((putsI sz (l.take 40)).length:Nat):Int):=by
    unfold its lenI
    rw[List.length_map]
   rw[this]
   rfl
 exact⟨by unfold qb2;rw[hT];rfl,by unfold qp PO.getO;rw[hT];rfl⟩
theorem hand_local (mo mr n:Nat) (tw:Bool):localE (handH (4*mo) (4*mr) tw) (4*mo) (4*mr) n=handE (4*mo) (4*mr) n tw:=by
 unfold localE handE handP
 rw[hand_cnt]
theorem qiO (x:dens qP) (_:fitsAll maxLen qP x):(qdG x).val=some true:=by
 obtain⟨⟨i,o,r,u⟩,l,tw⟩:=x
 unfold qdG
 cases hm:qcF (i,o,r,u)
 ·exact(val_yes rfl).trans rfl
 ·obtain⟨rfl,mo,mr,rfl,rfl,m1,m2,m3⟩:=may_facts hm
  obtain⟨d1,d2⟩:=dirty_val mo mr l tw m1 ⟨m2,m3⟩
  generalize hsz:(((0:Int),((4*mo:Nat):Int),((4*mr:Nat):Int),()):tSizes.den)=sz at *
  have hlen:=puts_len sz (l.take 40)
  rw[List.length_take] at hlen
  obtain⟨_,hd,adr,k,him,hk⟩:=img_part (pre:=putsI sz (l.take 40)) (H:=handH (4*mo) (4*mr) tw) (puts_opK sz _) (by omega) (hand_code _ _ _) (4*mo) (4*mr) (by omega) (by omega) (by omega) (by omega)
  rw[hsz] at him
  generalize qQ (its (putsI sz (l.take 40))++handH (4*mo) (4*mr) tw,sz,0)=img at *
  have hs:SzOk (4*mo) (4*mr) img.length:=him.prg.sz
  obtain⟨ρ1,e1⟩:=puts_exec (E:=⟨prgTo (its (putsI sz (l.take 40))++handH (4*mo) (4*mr) tw) (its (putsI sz (l.take 40))++handH (4*mo) (4*mr) tw).length,4*mo,4*mr,img.length,cntI (its (putsI sz (l.take 40))++handH (4*mo) (4*mr) tw) k⟩) hs (l.take 40) (beginS (4*mo) (4*mr) img.length img)
  dsimp only at e1
  rw[hsz] at e1
  generalize hW:putsW sz (l.take 40) (beginS (4*mo) (4*mr) img.length img).2.2=W1 at e1
  obtain⟨cy,hrun⟩:=run_behind (puts_opK sz (l.take 40)) (by omega) (hand_code _ _ tw) (by omega) (by omega) (by omega) him hk e1 noFault noF_check (.inr rfl) (20000-(putsI sz (l.take 40)).length) (by omega)
  rw[show(putsI sz (l.take 40)).length+(20000-(putsI sz (l.take 40)).length)=20000 by omega] at hrun
  rw[goI_none,hand_local] at hrun
  obtain⟨s',h1,h2,h3⟩:=h_run (hand_at mo mr img.length tw hs) (ρ1,(beginS (4*mo) (4*mr) img.length img).2.1,W1)
  have hfin:=ends_more h1 (n:=20000-(putsI sz (l.take 40)).length) (by unfold hSteps;omega)
  have hfin:goN (handE (4*mo) (4*mr) img.length tw) (20000-(putsI sz (l.take 40)).length) (false,0,ρ1,(beginS (4*mo) (4*mr) img.length img).2.1,W1)=_:=hfin
  rw[hfin] at hrun
  dsimp only at hrun
  have z1:=bytesW_zero (W:=s'.2.2) (b:=537001984) (n:=4*mo) (fun i hi=>h2.out i (by omega))
  have z2:=bytesW_zero (W:=s'.2.2) (b:=537133056) (n:=4*mr) (fun i hi=>h2.a i (by omega))
  have z3:=bytesW_zero (W:=s'.2.2) (b:=537395200) (n:=4*mr) (fun i hi=>h2.b i (by omega))
  have l1:=bytesW_len s'.2.2 537001984 (4*mo) (by omega)
  have l2:=bytesW_len s'.2.2 537133056 (4*mr) (by omega)
  have l3:=bytesW_len s'.2.2 537395200 (4*mr) (by omega)
  rw[h2.commit,h3] at hrun
  generalize bytesW s'.2.2 537001984 (4*mo)=X at *
  generalize bytesW s'.2.2 537133056 (4*mr)=Y at *
  generalize bytesW s'.2.2 537395200 (4*mr)=Z at *
  obtain⟨w1,w2⟩:=wiped_val true (((putsI sz (l.take 40)).length+hSteps mo mr:Nat):Int) cy ((1:Nat):Int) ((0:Nat):Int) ((195890093:Nat):Int) X Y Z (by omega) (by omega) (by omega)
  rw[z1,z2,z3] at w2
  have hk:=of_kind true (((putsI sz (l.take 40)).length+hSteps mo mr:Nat):Int) cy ((1:Nat):Int) ((0:Nat):Int) ((195890093:Nat):Int) X Y Z
  refine(val_no rfl).trans ((val_yes d1).trans ?_)
  rw[d2]
  dsimp only
  have hrun:qF (img,[],(0,0,0,0,()),20000)=_:=hrun
  rw[hrun]
  dsimp only
  rw[w1,w2,hk]
  have c1:decide ((((putsI sz (l.take 40)).length+hSteps mo mr:Nat):Int) > (((putsI sz (l.take 40)).length:Nat):Int))=true:=dec_true (by unfold hSteps;omega)
  have c2:(lenI Y==((4*mr:Nat):Int))=true:=by
   simp only[lenI,l2,beq_self_eq_true]
  have c3:sz.2.2.1=((4*mr:Nat):Int):=by rw[←hsz]
  rw[c1,c3,c2]
  rfl
end Go.Av
end
