/- Texts of the proof, one behind the other. -/
import Derived.Test.YtealbjacocgjcaaGreatGateSkipsK32
import Derived.Test.YtealbjacocgjcaaGreatGateSkipsK31
import Derived.WalkKit
import Derived.Defers
import Derived.Recover
import Derived.Test.YtealbjacocgjcaaGreatGateSkipsK22
import Derived.Test.YtealbjacocgjcaaGreatProg
import Derived.WalkSpells
import Derived.WalkLawsBesides
import Derived.Lib.Builder
import Derived.Lib.Walk
import Derived.Lib.AppendStr
import Derived.Lib.UnsafeStr
import Derived.Laws.Externs
import Derived.BigRegion
import Derived.Test.YtealbjacocgjcaaGreatGateSkipsK29
import Derived.Test.YtealbjacocgjcaaGreatGateSkipsK21
import Derived.Deep.QuietTactic
import Derived.BigQuiet
import Derived.Test.YtealbjacocgjcaaGreatGateSkipsK25
import Derived.Test.YtealbjacocgjcaaGreatGateSkipsK26
import Derived.Test.YtealbjacocgjcaaGreatGateSkipsK27
import Derived.Test.YtealbjacocgjcaaGreatGateSkipsK30
section
namespace Go.Av
open Go
def sucIn (E:Env) (f:Nat→Bool) (j:Nat):Bool:=match E.P[j]? with
 |none=>f E.h
 |some (.op i)=>bif i.1==2 then true else f (j+1)&&(bif i.1==19||i.1==20 then f E.h else true)
 |some (.br o _ t)=>f t&&(bif o==24 then true else f (j+1))
def noStr (E:Env) (j:Nat):Bool:=match E.P[j]? with
 |some (.op i)=>!(i.1==20)
 |_=>true
theorem suc_ok {E:Env} {f:Nat→Bool} {j:Nat} (h:sucIn E f j=true) (s:IS) (hd:(stepI E false j s).1=false):f (stepI E false j s).2.1=true:=by
 unfold sucIn at h
 unfold stepI at hd ⊢
 cases hp:E.P[j]? with
 |none=>rw[hp] at h;exact h
 |some p =>
  rw[hp] at h hd
  cases p with
  |op i =>
   have hd:(doI E j i s).1=false:=hd
   show f (doI E j i s).2.1=true
   dsimp only at h
   unfold doI at hd ⊢
   cases e2:(i.1==(2:Int))
   ·rw[e2] at h
    simp only[cond_false,Bool.and_eq_true] at h
    obtain⟨h1,h3⟩:=h
    cases e19:(i.1==(19:Int))
    ·rw[e19] at h3
     cases e20:(i.1==(20:Int))
     ·cases (i.1==(23:Int))<;>exact h1
     ·rw[e20] at h3
      cases E.okW (s.1 i.2.2.1)
      ·exact h3
      ·exact h1
    ·rw[e19] at h3
     cases E.okR (s.1 i.2.2.1)
     ·exact h3
     ·exact h1
   ·rw[e2] at hd
    cases hd
  |br o c t =>
   simp only[Bool.and_eq_true] at h
   show f (bif goesF s.2.1 o c then(false,t,s) else(false,j+1,s)).2.1=true
   cases hg:goesF s.2.1 o c
   ·have ho:(o==(24:Int))=false:=by
     cases ho:(o==(24:Int))
     ·rfl
     ·unfold goesF at hg
      rw[ho] at hg
      cases hg
    rw[ho] at h
    exact h.2
   ·exact h.1
theorem step_mem {E:Env} {j:Nat} (h:noStr E j=true) (sk:Bool) (s:IS):(stepI E sk j s).2.2.2.2=s.2.2:=by
 unfold noStr at h
 unfold stepI
 cases hp:E.P[j]? with
 |none=>rfl
 |some p =>
  rw[hp] at h
  cases sk
  ·show(atI E j s p).2.2.2.2=_
   cases p with
   |op i =>
    have h:(i.1==(20:Int))=false:=by simpa using h
    show(doI E j i s).2.2.2.2=_
    unfold doI
    rw[h]
    cases (i.1==(2:Int))
    ·cases (i.1==(19:Int))
     ·cases (i.1==(23:Int))<;>rfl
     ·cases E.okR (s.1 i.2.2.1)<;>rfl
    ·rfl
   |br o c t =>
    show(bif goesF s.2.1 o c then(false,t,s) else(false,j+1,s)).2.2.2.2=_
    cases goesF s.2.1 o c<;>rfl
  ·rfl
theorem go_split {E:Env} {k c j j':Nat} {s s':IS} (h:GoTo E (k+1) c j s j' s'):∃j1 s1 c1,stepI E false j s=(false,j1,s1)∧GoTo E k c1 j1 s1 j' s'∧c=(bif j==E.h then 1 else 0)+c1:=by
 unfold GoTo at h
 rw[goN] at h
 simp only[cond_false,Prod.mk.injEq] at h
 obtain⟨h1,h2,h3⟩:=h
 generalize hq:stepI E false j s=q at *
 obtain⟨b,j1,s1⟩:=q
 cases b with
 |true =>
  rw[goN_done E k rfl] at h3
  have:=congrArg (fun x=>x.1) h3
  cases this
 |false =>
  refine⟨j1,s1,(goN E k (false,j1,s1)).2.1,rfl,?_,h2.symm⟩
  unfold GoTo
  have e1:(goN E k (false,j1,s1)).1=k:=by omega
  rw[←h3]
  exact Prod.ext e1 rfl
theorem closed_go {E:Env} {Q:Nat→Bool} (hQ:∀j,Q j=true→sucIn E (fun x=>Q x||x==E.h) j=true):∀(k:Nat) (j:Nat) (s:IS) (j':Nat) (s':IS),Q j=true→GoTo E k 0 j s j' s'→Q j'=true∨j'=E.h
 |0,j,s,j',s',hj,h=>by
  have h:((0,0,false,j,s):Nat×Nat×IO3)=(0,0,false,j',s'):=h
  injection h with _ h
  injection h with _ h
  injection h with _ h
  injection h with h _
  rw[←h]
  exact .inl hj
 |k+1,j,s,j',s',hj,h=>by
  obtain⟨j1,s1,c1,e1,g1,ec⟩:=go_split h
  have c0:c1=0:=by omega
  subst c0
  have:=suc_ok (hQ j hj) s (by rw[e1])
  rw[e1] at this
  simp only[Bool.or_eq_true,beq_iff_eq] at this
  rcases this with h1 |h1
  ·exact closed_go hQ k j1 s1 j' s' h1 g1
  ·subst h1
   cases k with
   |zero =>
    have g1:((0,0,false,E.h,s1):Nat×Nat×IO3)=(0,0,false,j',s'):=g1
    injection g1 with _ g1
    injection g1 with _ g1
    injection g1 with _ g1
    injection g1 with g1 _
    exact .inr g1.symm
   |succ k =>
    obtain⟨_,_,c2,_,_,ec2⟩:=go_split g1
    rw[beq_self_eq_true] at ec2
    simp only[cond_true] at ec2
    omega
theorem stay {E:Env} {S R:Nat→Bool} {e:Nat} (hS:∀j,S j=true→sucIn E (fun x=>S x||(x==e||x==E.h)) j=true) (hR:∀j,R j=true→sucIn E (fun x=>R x||x==E.h) j=true) (hRe:R e=false) (he:sucIn E (fun x=>R x||x==E.h) e=true) (heh:e≠E.h) :
  ∀(k:Nat) (j:Nat) (s s':IS),S j=true→GoTo E k 0 j s e s'→∀t,t<k→∃jt st,GoTo E t 0 j s jt st∧S jt=true∧((∀x,S x=true→noStr E x=true)→st.2.2=s.2.2)
 |0,_,_,_,_,_,t,ht=>by cases ht
 |k+1,j,s,s',hj,h,t,ht=>by
  cases t with
  |zero=>exact⟨j,s,GoTo.refl E j s,hj,fun _=>rfl⟩
  |succ t =>
   obtain⟨j1,s1,c1,e1,g1,ec⟩:=go_split h
   have c0:c1=0:=by omega
   subst c0
   have hjh:(j==E.h)=false:=by
    cases hb:(j==E.h)
    ·rfl
    ·rw[hb] at ec;simp only[cond_true] at ec;omega
   have:=suc_ok (hS j hj) s (by rw[e1])
   rw[e1] at this
   simp only[Bool.or_eq_true,beq_iff_eq] at this
   rcases this with h1 |h1 |h1
   ·obtain⟨jt,st,g,hst,hmem⟩:=stay hS hR hRe he heh k j1 s1 s' h1 g1 t (by omega)
    refine⟨jt,st,go_cons e1 (by simpa using hjh) g,hst,fun hx=>?_⟩
    rw[hmem hx]
    have:=step_mem (hx j hj) false s
    rw[e1] at this
    exact this
   ·subst h1
    exfalso
    cases k with
    |zero=>omega
    |succ k =>
     obtain⟨j2,s2,c2,e2,g2,ec2⟩:=go_split g1
     have c0:c2=0:=by omega
     subst c0
     have:=suc_ok he s1 (by rw[e2])
     rw[e2] at this
     simp only[Bool.or_eq_true,beq_iff_eq] at this
     rcases this with h2 |h2
     ·rcases closed_go hR k j2 s2 j1 s' h2 g2 with h3 |h3
      ·rw[hRe] at h3;cases h3
      ·exact heh h3
     ·subst h2
      cases k with
      |zero =>
       have g2:((0,0,false,E.h,s2):Nat×Nat×IO3)=(0,0,false,j1,s'):=g2
       injection g2 with _ g2
       injection g2 with _ g2
       injection g2 with _ g2
       injection g2 with g2 _
       exact heh g2.symm
      |succ k =>
       obtain⟨_,_,c3,_,_,ec3⟩:=go_split g2
       rw[beq_self_eq_true] at ec3
       simp only[cond_true] at ec3
       omega
   ·subst h1
    exfalso
    cases k with
    |zero =>
     have g1:((0,0,false,E.h,s1):Nat×Nat×IO3)=(0,0,false,e,s'):=g1
     injection g1 with _ g1
     injection g1 with _ g1
     injection g1 with _ g1
     injection g1 with g1 _
     exact heh g1.symm
    |succ k =>
     obtain⟨_,_,c3,_,_,ec3⟩:=go_split g1
     rw[beq_self_eq_true] at ec3
     simp only[cond_true] at ec3
     omega
end Go.Av
end
section
namespace Go.Av
open Go
abbrev qdz:List Ty:=[tCase]
abbrev qeQ:Sh:=Sh.ty Ty.bool
def qeY (x:dens qdz):PO (Sh.den qeQ) :=
 (.ret (decide (x.1≥0)&&(decide (x.1≤8)&&(decide (x.2.1≥0)&&decide (x.2.1≤8)))))
def qgR (_:dens qdz):Bool:=true
def qcO (x:dens qdz):Sh.den qeQ:=(qeY x).getO default
theorem qk7 (x:dens qdz) (_:qgR x=true):(qeY x).val=some (qcO x):=PO.sure_ok default (by simp[qeY,PO.sure])
abbrev qc1:List Ty:=[tCase]
abbrev qdU:Sh:=Sh.ty tSizes
def qdX (x:dens qc1):PO (Sh.den qdU) :=
 (.ret ((0,w64 (4*x.2.1),w64 (w64 (w64 (4*x.1)+w64 (4*x.2.1))+4),())))
def qfO (_:dens qc1):Bool:=true
def qN (x:dens qc1):Sh.den qdU:=(qdX x).getO default
theorem qkF (x:dens qc1) (_:qfO x=true):(qdX x).val=some (qN x):=PO.sure_ok default (by simp[qdX,PO.sure])
def qcQ:LoopN where
 M:=[1,2,5,6]
 T:=[7,8,9,10,11,12,13,14,15,16,17,18,19,20,21,22,23,24,25,26,27,28,29,30,31,32]
 D:=[1,2,6]
 ss:=[.ty (.int .i64),.box 0 0,.ty (.int .i64),.ty (.int .i64)]
 hs:=[.ty tCase]
 es:=[.exit 0]
 σ:=(Ty.den (.int .i64))×(Ty.den (.int .i64))×(Sh.den (.ty tCase))
 x0:=fun x y=>(x.2.2.1,x.2.2.2,y)
 put:=fun x _ s=>((x.1,x.2.1,s.1,s.2.1),s.2.2)
 fuel:=fun _ y=>List.length y.2.2.1+1
 turn:=fun x _ s =>
 (.ite (decide (s.2.1<lenI s.2.2.2.2.1)&&decide (s.2.1<20))
  (.ite (inRange s.2.1 (List.length s.2.2.2.2.1))
  (.ite (bif (List.getD s.2.2.2.2.1 (Int.toNat s.2.1) (Ty.dflt tStore)).2.1==x.1 then inRange s.2.1 (List.length s.2.2.2.2.1) else true)
   (.ret (.on (bif (List.getD s.2.2.2.2.1 (Int.toNat s.2.1) (Ty.dflt tStore)).2.1==x.1 then band IntKind.i64 (List.getD s.2.2.2.2.1 (Int.toNat s.2.1) (Ty.dflt tStore)).2.2.1 4294967295 else s.1,w64 (s.2.1+1),s.2.2)))
   .fail)
  .fail)
  (.ret (.out 0 (s.1,s.2.1,s.2.2))))
abbrev qdl:List Ty:=[tCase,(.int .i64)]
abbrev qer:Sh:=Sh.ty (Ty.int IntKind.i64)
def qcp (x:dens qdl):PO (Sh.den qer) :=
 (.opt (LoopN.res qcQ (x.2,(),0,0) x.1) fun p0 =>
  (.ret (p0.2.1)))
def qbF (x:dens qdl):Bool:=(qcp x).val.isSome
def qG (x:dens qdl):Sh.den qer:=(qcp x).getO default
theorem qkT (x:dens qdl) (h:qbF x=true):(qcp x).val=some (qG x):=PO.getO_ok default h
def qcI:LoopN where
 M:=[1,3,4]
 T:=[5,6,7,8,9,10,11,12,13,14,15,16,17,18,19,20,21,22,23,24,25,26,27,28,29,30,31]
 D:=[1,4]
 ss:=[.box 0 0,.osl 0 (.int .u8),.ty (.int .i64)]
 hs:=[.ty tCase]
 es:=[.exit 0]
 σ:=(List (Ty.den (.int .u8)))×(Ty.den (.int .i64))×(Sh.den (.ty tCase))
 x0:=fun x y=>(x.2.1,x.2.2,y)
 put:=fun x _ s=>((x.1,s.1,s.2.1),s.2.2)
 fuel:=fun _ y=>Int.toNat y.2.1+1
 turn:=fun _ _ s =>
 (.ite (decide (s.2.1<s.2.2.2.1))
  (.ite (qbF (s.2.2,w64 (s.2.2.1+s.2.1)))
  (.ite (Nat.ble ((List.length s.1+List.length [IntKind.wrap IntKind.u8 (qG (s.2.2,w64 (s.2.2.1+s.2.1))),IntKind.wrap IntKind.u8 (ishr IntKind.i64 (qG (s.2.2,w64 (s.2.2.1+s.2.1))) 8),IntKind.wrap IntKind.u8 (ishr IntKind.i64 (qG (s.2.2,w64 (s.2.2.1+s.2.1))) 16),IntKind.wrap IntKind.u8 (ishr IntKind.i64 (qG (s.2.2,w64 (s.2.2.1+s.2.1))) 24)])*1) 140737488355328)
   (.ret (.on (s.1++[IntKind.wrap IntKind.u8 (qG (s.2.2,w64 (s.2.2.1+s.2.1))),IntKind.wrap IntKind.u8 (ishr IntKind.i64 (qG (s.2.2,w64 (s.2.2.1+s.2.1))) 8),IntKind.wrap IntKind.u8 (ishr IntKind.i64 (qG (s.2.2,w64 (s.2.2.1+s.2.1))) 16),IntKind.wrap IntKind.u8 (ishr IntKind.i64 (qG (s.2.2,w64 (s.2.2.1+s.2.1))) 24)],w64 (s.2.1+1),s.2.2)))
   .fail)
  .fail)
  (.ret (.out 0 (s.1,s.2.1,s.2.2))))
abbrev qcZ:List Ty:=[tCase]
abbrev qd2:Sh:=Sh.ty Ty.str
def qca (x:dens qcZ):PO (Sh.den qd2) :=
 (.opt (LoopN.res qcI ((),[],0) x) fun p0 =>
  (.ret (List.map toByte p0.2.1)))
def qb7 (x:dens qcZ):Bool:=(qca x).val.isSome
def q9 (x:dens qcZ):Sh.den qd2:=(qca x).getO default
theorem qkH (x:dens qcZ) (h:qb7 x=true):(qca x).val=some (q9 x):=PO.getO_ok default h
def putT {α:Type} (base:List tItem.den) (x:tStore.den) (sz:tSizes.den) (K:List tItem.den→PO α):PO α:=.ite (putBad x sz) (K base) (appT base (put5 x) K)
def qbC:LoopN where
 M:=[1,3,4,5]
 T:=[6,9,10,11,12,13,14,15,16,17,18,19,20,21,22,23,24,25,26,27,28,29,30,31,32,33,34]
 D:=[1,4,5]
 ss:=[.box 0 0,.osl 0 tItem,.box 1 0,.ty (.int .i64)]
 hs:=[.ty tCase,.ty tSizes]
 es:=[.exit 0]
 σ:=(List (Ty.den tItem))×(Ty.den (.int .i64))×(Sh.den (.ty tCase))×(Sh.den (.ty tSizes))
 x0:=fun x y=>(x.2.1,x.2.2.2,y.1,y.2)
 put:=fun x _ s=>((x.1,s.1,x.2.2.1,s.2.1),(s.2.2.1,s.2.2.2))
 fuel:=fun _ y=>List.length y.1.2.2.1+1
 turn:=fun _ _ s =>
 (.ite (decide (s.2.1<lenI s.2.2.1.2.2.1)&&decide (s.2.1<20))
  (.ite (inRange s.2.1 (List.length s.2.2.1.2.2.1))
  (putT s.1 (1,(List.getD s.2.2.1.2.2.1 (Int.toNat s.2.1) (Ty.dflt tStore)).2) s.2.2.2 fun o=>putT o (2,(List.getD s.2.2.1.2.2.1 (Int.toNat s.2.1) (Ty.dflt tStore)).2) s.2.2.2 fun o' =>
   .ret (.on (o',w64 (s.2.1+1),s.2.2.1,s.2.2.2)))
  .fail)
  (.ret (.out 0 (s.1,s.2.1,s.2.2.1,s.2.2.2))))
abbrev gateX (x:dens [tCase,.bool,.bool]):List tItem.den:=qhi (w64 (4*x.1.1),(qN x.1).2.1,x.2.1,0,20)
abbrev handX (x:dens [tCase,.bool,.bool]):List tItem.den:=qbD (qN x.1,x.2.1,0,1)
def codeX (x:dens [tCase,.bool,.bool]):List tItem.den:=bif x.2.2 then qkl (gateX x++handX x) else gateX x++handX x
def builtT (x:dens [tCase,.bool,.bool]) (l:List tItem.den):PO (List UInt8×Int×Unit) :=
 .ite (Nat.ble ((List.length (gateX x)+List.length (handX x))*80) 140737488355328)
  (.ite (bif x.2.2 then qh2 (gateX x++handX x) else true)
   (.ite (Nat.ble ((List.length l+List.length (codeX x))*80) 140737488355328)
    (.ite (qbg (l++codeX x,qN x.1,0))
     (.ret (qE (l++codeX x,qN x.1,0),lenI l,()))
     .fail)
    .fail)
   .fail)
  .fail
abbrev qdb:List Ty:=[tCase,.bool,.bool]
abbrev qdW:Sh:=Sh.tup (Sh.pair (Sh.ty Ty.str) (Sh.pair (Sh.ty (Ty.int IntKind.i64)) (Sh.ty Ty.unit)))
def qcb (x:dens qdb):PO (Sh.den qdW) :=
 (.opt (LoopN.res qbC ((),[],(),0) (x.1,qN x.1)) fun p0 =>
  (.ite (x.1.2.2.2.1&&decide (x.1.2.1 > 0))
  (.ite (qbF (x.1,x.1.1))
   (putT p0.2.1 (2,x.1.1,bxor IntKind.i64 (qG (x.1,x.1.1)) 1,()) (qN x.1) (builtT x))
   .fail)
  (builtT x p0.2.1)))
def qb8 (x:dens qdb):Bool:=(qcb x).val.isSome
def qq (x:dens qdb):Sh.den qdW:=(qcb x).getO default
theorem qkG (x:dens qdb) (h:qb8 x=true):(qcb x).val=some (qq x):=PO.getO_ok default h
abbrev qR:List Ty:=[tCase,(.int .i64)]
abbrev qj5:Sh:=Sh.ty Ty.bool
def qek (x:dens qR):PO (Sh.den qj5) :=
 (.ite (!qcO x.1||decide (x.2<0))
  (.ret (true))
  (.ite (qb8 (x.1,false,true))
  (.ite ((qK ((qq (x.1,false,true)).1,[],(0,0,0,0,()),20000)).2.1 != 0||(!(qK ((qq (x.1,false,true)).1,[],(0,0,0,0,()),20000)).1.1||qb7 x.1))
   (.ite ((qK ((qq (x.1,false,true)).1,[],(0,0,0,0,()),20000)).2.1 != 0||(!(qK ((qq (x.1,false,true)).1,[],(0,0,0,0,()),20000)).1.1||!(qfA (qK ((qq (x.1,false,true)).1,[],(0,0,0,0,()),20000)).1).2.1==q9 x.1))
   (.ret (false))
   (.ite (decide (x.2<(qq (x.1,false,true)).2.1))
    (.ret (true))
    (.ite (bif (qK ((qq (x.1,false,true)).1,[],(1,x.2,0,0,()),20000)).2.1==0 then qec ((qK ((qq (x.1,false,true)).1,[],(0,0,0,0,()),20000)).1,(qK ((qq (x.1,false,true)).1,[],(1,x.2,0,0,()),20000)).1)||true else true)
    (.ret ((qK ((qq (x.1,false,true)).1,[],(1,x.2,0,0,()),20000)).2.1==0&&(qec ((qK ((qq (x.1,false,true)).1,[],(0,0,0,0,()),20000)).1,(qK ((qq (x.1,false,true)).1,[],(1,x.2,0,0,()),20000)).1)&&true)))
    .fail)))
   .fail)
  .fail))
end Go.Av
end
section
namespace Go.Proofs.YtealbjacocgjcaaGreat
open Go Go.Av Go.Proofs Go.RowKit
noncomputable def stepRest:Code:=match Tryz.f79.body with
 |some (.seq _ r)=>r
 |_=>.skip
theorem trapZero (w:World):(Instr.typeAssert .nilIface 20 148 true).run Tryz.prog w=.ok (.tuple #[.agg #[.int .i64 0],.bool false]) w:=by
 kernel_rfl
theorem trapSome (v:Value) (w:World):(Instr.typeAssert (.iface 148 v) 20 148 true).run Tryz.prog w=.ok (.tuple #[v,.bool true]) w:=by
 kernel_rfl
theorem step_enter (cap:Array Value) (w:World):(invoke (.fn (.func 79) cap) #[]).run Tryz.prog w=.ok (.enter 79 cap) w:=by
 have h1 : (Tryz.f79.name == "runtime.NumGoroutine") = false := by kernel_rfl
 have h2:Tryz.f79.body.isNone=false:=by kernel_rfl
 have h3:Tryz.prog.funcs[79]?=some Tryz.f79:=Tryz.func79
 simp only[invoke,callFunc]
 rw[show(#[]:Array Value)++cap=cap by simp]
 simp only[Sem.run_bind,run_program,Result.andThen_ok,h3,h1,h2,Bool.false_eq_true,if_false]
 rfl
set_option maxRecDepth 100000 in
set_option maxHeartbeats 2000000 in
theorem step_catches:Catches Tryz.prog 79 148 Tryz.f79 stepRest where
 enter:=step_enter
 idle:=fun p0 p1 p2 w=>by
  refine callsD_of_wpS (c:=.seq (.region _ _ false) stepRest) Tryz.func79 rfl fun c₀ cs hu=>?_
  simp only[Tryz.ntmps79,List.size_toArray,List.length_cons,List.length_nil,Nat.reduceAdd,Nat.reduceSub,Array.replicate_succ,Array.replicate_zero,List.push_toArray,List.append_toArray,List.nil_append,List.cons_append]
  apply wpS_seq
  apply wpS_region
  simp[wpOpsS,go_sem,recoverD,hu,Exit.thenS,trapZero]
  refine wpS_of_wp ?_
  refine Code.wp_mono (Q:=fun e a' w'=>e=.normal∧a'.defers=[]∧w'=w.alloc (.cells #[.int .i64 0] 148)) (fun e a' w' hq=>?_) ?_
  ·obtain⟨rfl,hd,rfl⟩:=hq
   exact⟨hd,.returning,by rw[←hu],_,results_none rfl _ _ _,⟨_,rfl⟩,rfl,rfl⟩
  ·show Code.wp _ (.seq (.region _ _ false) (.cond (.tmp 10) _ .skip)) _ _ _
   refine wp_seq (wp_region ?_)
   simp[wpOps,go_sem,Exit.then]
   refine .inl (wp_cond (t:=false) ?_ ?_)
   ·simp[Act.eval]
   simp only[Bool.false_eq_true,if_false]
   exact wp_skip ⟨rfl,rfl,rfl⟩
 caught:=fun p0 p1 p2 m w Rr h=>by
  refine callsD_of_wpS (c:=.seq (.region _ _ false) stepRest) Tryz.func79 rfl fun c₀ cs hu=>?_
  simp only[Tryz.ntmps79,List.size_toArray,List.length_cons,List.length_nil,Nat.reduceAdd,Nat.reduceSub,Array.replicate_succ,Array.replicate_zero,List.push_toArray,List.append_toArray,List.nil_append,List.cons_append]
  apply wpS_seq
  apply wpS_region
  simp[wpOpsS,go_sem,recoverD,hu,Exit.thenS,trapSome]
  refine wpS_of_wp (Code.wp_mono (fun e a' w' hq=>?_) (h _ rfl rfl rfl rfl rfl rfl))
  obtain⟨he,hd,hr⟩:=hq
  rcases he with rfl |rfl
  ·exact⟨hd,_,rfl,_,results_none rfl _ _ _,⟨_,rfl⟩,rfl,hr⟩
  ·exact⟨hd,_,rfl,_,results_none rfl _ _ _,⟨_,rfl⟩,rfl,hr⟩
theorem step_ok {C:Ctx} (hC:Av.Good C) (hP:C.P=Tryz.prog) (unroll d:Nat):BodyOk C.P 42 (evStep C drawOk unroll d 42 79 148) :=
 evStep_ok hC (gn:=Tryz.f79) (rest:=stepRest) (by rw[hP];exact Tryz.func79) rfl (by rw[hP];exact step_catches)
end Go.Proofs.YtealbjacocgjcaaGreat
end
section
namespace Go.Proofs.YtealbjacocgjcaaGreat
open Go Go.RowKit Go.Av Go.Proofs
section
variable {P:Program} (w:World)
theorem run_app_new (t u ty e:TypeId) (i:TypeInfo) (ht:P.underlying t=some (.slice e)) (hu:P.underlying u=some .string) (hi:P.info? e=some i) (hz:i.zero=some (.int .u8 0))
  (hsize:i.size=1) (hby:i.bytes=1) (v:Value) (n:Nat) (xs:List Value) (hown:w.ownsRow 0 e 1 v n xs) (s:ByteArray) (hlen:n+s.size≤140737488355328) :
  ∃v' w',(Builtin.append_ #[t,u] ty #[v,.string s]).run P w=.ok v' w'∧w'.ownsRow 0 e 1 v' (n+s.size) (xs++Lib.strCells s)∧w.grownBy w' v.ownBlock∧(v'.ownBlock=v.ownBlock∨∀k,v'.ownBlock=some k→w.heap.size≤k):=by
 have h63:n+s.size≤maxLen:=by unfold maxLen;omega
 obtain⟨v',w',hr,ho,hg,_⟩:=Lib.run_append_own_string (P:=P) w 0 t u ty e i ht hu hi hz hsize hby v n xs hown s h63 hlen (Nat.zero_le _)
 refine⟨v',w',hr,ho,hg,?_⟩
 have hxl:xs.length=n:=by simpa using hown.1
 rcases hown.2 with⟨rfl,rfl⟩ |⟨g,cap,cur,rfl,hbg,hgg,hnc,hcm,hcs,htake⟩
 ·obtain⟨v2,w2,hr2,ho2,_,_⟩:=Lib.run_append_own_string (P:=P) w w.heap.size t u ty e i ht hu hi hz hsize hby (.slice none 0 0) 0 xs ⟨hown.1,.inl ⟨rfl,rfl⟩⟩ s h63 hlen (Nat.le_refl _)
  rw[hr] at hr2
  cases hr2
  exact .inr fun k hk=>(ho2.lt k hk).1
 ·have hcs':cur.size=cap:=by simpa using hcs
  by_cases hroom:n+s.size≤cap
  ·have hr2:=Lib.run_append_room_string (P:=P) w t u ty e i ht hu hi hsize g n cap cur hgg s hroom (by omega)
   rw[hr] at hr2
   cases hr2
   exact .inl rfl
  ·have holds:∀j u,xs[j]?=some u→w.cell? ((⟨g,0,none⟩:Addr).add j)=some u:=hown.cells (g:=g) rfl
   have hr2:=Lib.run_append_grow_string (P:=P) w t u ty e i (.int .u8 0) ht hu hi hz ⟨g,0,none⟩ n cap xs (by rw[hsize];simpa using hxl) holds s (by omega) (by omega) (by rw[hby];exact growslice_fits (by omega) (by omega))
   rw[hr] at hr2
   cases hr2
   exact .inr fun k hk=>by simp only[Value.ownBlock,Option.some.injEq] at hk;omega
theorem wpList_app_new {w:World} {ops:Array Oper} {rest:List Oper} {o:Oper} {a:Act} {Q:Exit→Act→World→Prop} (hgd:o.guard=none) (sl x:Operand) (t u:TypeId)
  (ho:o.op=.call {callee:=.builtin .append,args:=#[sl,x],argTypes:=#[t,u]})
  (e:TypeId) (i:TypeInfo) (ht:P.underlying t=some (.slice e)) (hu:P.underlying u=some .string) (hi:P.info? e=some i) (hz:i.zero=some (.int .u8 0))
  (hsize:i.size=1) (hby:i.bytes=1)
  (v:Value) (n:Nat) (xs:List Value) (hs:a.eval sl=v) (hown:w.ownsRow 0 e 1 v n xs) (s:ByteArray) (hx:a.eval x=.string s) (hlen:n+s.size≤140737488355328)
  (h:∀v' w',w'.ownsRow 0 e 1 v' (n+s.size) (xs++Lib.strCells s)→w.grownBy w' v.ownBlock→(v'.ownBlock=v.ownBlock∨∀k,v'.ownBlock=some k→w.heap.size≤k)→wpList P ops Q rest (a.put o.dst v') w'):wpList P ops Q (o::rest) a w:=by
 refine wpList_plain hgd fun K hK=>?_
 obtain⟨v',w',hr,h2,h3,h4⟩:=run_app_new (P:=P) w t u o.type e i ht hu hi hz hsize hby v n xs hown s hlen
 unfold Oper.wp execOp
 simp only[ho,resolve,invoke,builtin,Sem.run_bind,Sem.run_pure,Result.andThen_ok,List.map_toArray,List.map_cons,List.map_nil,hs,hx,hr]
 exact hK _ _ (h v' w' h2 h3 h4)
end
set_option maxRecDepth 100000 in
set_option maxHeartbeats 4000000 in
theorem copy_used (b:Nat) (w:World) (h0:w.cell? ⟨b,0,none⟩=some (.pointer (some ⟨b,0,none⟩))) :
  Calls Tryz.prog 108 #[.pointer (some ⟨b,0,none⟩)] w fun e w'=>e=.returned (.tuple #[])∧w'=w:=by
 have hq:(binOp .neq 125 (.pointer (some ⟨b,0,none⟩)) (.pointer (some ⟨b,0,none⟩))).run Tryz.prog w=.ok (.bool false) w:=by
  obtain⟨j,hj,_⟩:=Option.map_eq_some_iff.1 (show(Tryz.prog.info? 127).map (fun i=>i.size)=some 2 by kernel_rfl)
  exact Lib.run_neq_ptr_same w ⟨b,0,none⟩ (show Tryz.prog.underlying 125=some (.pointer 127) by kernel_rfl) hj
 go_enter Tryz.func108,Tryz.ntmps108
 go_wp2
 go_end0
 exact⟨rfl,rfl⟩
set_option maxRecDepth 100000 in
set_option maxHeartbeats 4000000 in
theorem copy_fresh (b:Nat) (w:World) (h0:w.cell? ⟨b,0,none⟩=some (.pointer none)) (hsh:w.shape? b=some (127,2)) (hfz:w.frozen? ⟨b,0,none⟩=false) :
  Calls Tryz.prog 108 #[.pointer (some ⟨b,0,none⟩)] w fun e w'=>e=.returned (.tuple #[])∧w'=w.setCell ⟨b,0,none⟩ (.pointer (some ⟨b,0,none⟩)):=by
 obtain⟨j,hj,hjs⟩:=Option.map_eq_some_iff.1 (show(Tryz.prog.info? 127).map (fun i=>i.size)=some 2 by kernel_rfl)
 have hu1:(convert 125 213 (.pointer (some ⟨b,0,none⟩))).run Tryz.prog w=.ok (.pointer (some ⟨b,0,none⟩)) w :=
  Lib.run_to_unsafe w ⟨b,0,none⟩ (show Tryz.prog.underlying 125=some (.pointer 127) by kernel_rfl) (show Tryz.prog.underlying 213=some .unsafePointer by kernel_rfl) hj (by rw[hjs];decide) hsh (Nat.zero_lt_succ 1)
 go_enter Tryz.func108,Tryz.ntmps108
 go_wp2
 rw[run_callFunc_extern Tryz.func132 (by kernel_rfl) (by kernel_rfl) (by kernel_rfl) (e:=Extern.AbiNoEscape.same) (by kernel_rfl)]
 rw[Lib.run_noEscape]
 simp only[Result.andThen]
 rw[Oper.upon_value]
 go_wp2
 rw[Lib.run_from_unsafe w ⟨b,0,none⟩ (show Tryz.prog.underlying 213=some .unsafePointer by kernel_rfl) (show Tryz.prog.underlying 125=some (.pointer 127) by kernel_rfl) hj hsh (by kernel_rfl)]
 simp only[Result.andThen]
 rw[Oper.upon_value]
 go_wp2
 go_end0
 exact⟨rfl,rfl⟩
theorem setCell_heap {w:World} {b:Nat} {c:Array Value} {T:TypeId} (h:w.heap[b]?=some (.cells c T (0,0))) (o:Nat) (v:Value):(w.setCell ⟨b,o,none⟩ v).heap[b]?=some (.cells (c.setIfInBounds o v) T (0,0)):=by
 simp[World.setCell,Array.getElem?_modify,h]
theorem setCell_other (w:World) {b x:Nat} (hx:x≠b) (o:Nat) (v:Value):(w.setCell ⟨b,o,none⟩ v).heap[x]?=w.heap[x]?:=by
 simp[World.setCell,Array.getElem?_modify,Ne.symm hx]
theorem setCell_size (w:World) (a:Addr) (v:Value):(w.setCell a v).heap.size=w.heap.size:=by
 simp[World.setCell]
theorem copy_any (b:Nat) (p v:Value) (w:World) (hb:w.heap[b]?=some (.cells #[p,v] 127 (0,0))) (hp:p=.pointer none∨p=.pointer (some ⟨b,0,none⟩)) :
  Calls Tryz.prog 108 #[.pointer (some ⟨b,0,none⟩)] w fun e w'=>e=.returned (.tuple #[])∧w'.heap[b]?=some (.cells #[.pointer (some ⟨b,0,none⟩),v] 127 (0,0)) ∧
   (∀x,x≠b→w'.heap[x]?=w.heap[x]?)∧w'.heap.size=w.heap.size∧w'.os=w.os∧w'.tape=w.tape∧w'.output=w.output:=by
 rcases hp with rfl |rfl
 ·refine(copy_fresh b w (by simp[World.cell?,hb]) (by simp[World.shape?,hb]) (by simp[World.frozen?,hb])).mono ?_
  rintro e w' ⟨rfl,rfl⟩
  refine⟨rfl,?_,fun x hx=>setCell_other w hx _ _,setCell_size _ _ _,rfl,rfl,rfl⟩
  rw[setCell_heap hb]
  rfl
 ·refine(copy_used b w (by simp[World.cell?,hb])).mono ?_
  rintro e w' ⟨rfl,rfl⟩
  exact⟨rfl,hb,fun _ _=>rfl,rfl,rfl,rfl,rfl⟩
set_option maxRecDepth 100000 in
set_option maxHeartbeats 4000000 in
theorem write_run (b:Nat) (p v:Value) (xs:List Value) (s:ByteArray) (w:World) (hb:w.heap[b]?=some (.cells #[p,v] 127 (0,0))) (hp:p=.pointer none∨p=.pointer (some ⟨b,0,none⟩))
  (hown:w.ownsRow 0 5 1 v xs.length xs) (hne:v.ownBlock≠some b) (hlen:xs.length+s.size≤140737488355328) :
  Calls Tryz.prog 70 #[.pointer (some ⟨b,0,none⟩),.string s] w fun e w'=>(∃r,e=.returned r)∧∃(v':Value) (w1 w2:World),w'.heap[b]?=some (.cells #[.pointer (some ⟨b,0,none⟩),v'] 127 (0,0)) ∧
   w2.ownsRow 0 5 1 v' (xs.length+s.size) (xs++Lib.strCells s)∧(∀x,x≠b→w'.heap[x]?=w2.heap[x]?)∧w'.heap.size=w2.heap.size∧w'.os=w2.os∧w'.tape=w2.tape∧w'.output=w2.output ∧
   w1.grownBy w2 v.ownBlock∧(∀x,x≠b→w1.heap[x]?=w.heap[x]?)∧w1.heap.size=w.heap.size∧w1.os=w.os∧w1.tape=w.tape∧w1.output=w.output∧(v'.ownBlock=v.ownBlock∨∀k,v'.ownBlock=some k→w.heap.size≤k):=by
 obtain⟨i0,hi,hz0,hz1,hz2⟩:=info_parts (show(Tryz.prog.info? 5).map (fun i=>(i.zero,i.size,i.bytes))=some (some (.int .u8 0),1,1) by kernel_rfl)
 go_enter Tryz.func70,Tryz.ntmps70
 go_wp2_with (go_at_call 108;refine(copy_any b p v _ hb hp).mono ?_)
 rintro e w1 ⟨rfl,hbk,hoth,hsz,hos,htp,hout⟩
 have hown1:w1.ownsRow 0 5 1 v xs.length xs:=by
  refine⟨hown.1,?_⟩
  rcases hown.2 with h |⟨g,cap,cur,hv,hg,hc,r⟩
  ·exact .inl h
  ·exact .inr ⟨g,cap,cur,hv,hg,(hoth g (fun e=>hne (by rw[hv,e];rfl))).trans hc,r⟩
 have hlt:b<w1.heap.size:=by
  rcases Nat.lt_or_ge b w1.heap.size with h' |h'
  ·exact h'
  ·simp[Array.getElem?_eq_none h'] at hbk
 have c0:w1.cell? ⟨b,0,none⟩=some (.pointer (some ⟨b,0,none⟩)):=by rw[Lib.cell_of_heap hbk];rfl
 have c1:w1.cell? ⟨b,1,none⟩=some v:=by rw[Lib.cell_of_heap hbk];rfl
 go_wp2_with (at_builtin;refine wpList_app_new rfl _ _ 112 9 rfl 5 i0 (show Tryz.prog.underlying 112=some (.slice 5) by kernel_rfl) (show Tryz.prog.underlying 9=some .string by kernel_rfl) hi hz0 hz1 hz2 _ _ _ rfl hown1 s rfl hlen ?_)
 intro v' w2 hown' hgrow hnew
 have hb2:w2.heap[b]?=some (.cells #[.pointer (some ⟨b,0,none⟩),v] 127 (0,0)):=by
  rw[hgrow.block b hlt (fun e=>hne e.symm)]
  exact hbk
 have d0:w2.cell? ⟨b,0,none⟩=some (.pointer (some ⟨b,0,none⟩)):=by rw[Lib.cell_of_heap hb2];rfl
 have d1:w2.cell? ⟨b,1,none⟩=some v:=by rw[Lib.cell_of_heap hb2];rfl
 have f1:w2.frozen? ⟨b,1,none⟩=false:=Lib.frozen_of_heap hb2 1
 obtain⟨ao,n',cap,rfl⟩:∃ao n' cap,v'=.slice ao n' cap:=by
  rcases hown'.2 with⟨hv,_⟩ |⟨g,cap,cur,hv,_⟩
  ·exact⟨_,_,_,hv⟩
  ·exact⟨_,_,_,hv⟩
 go_wp2
 go_ret2
 refine⟨⟨_,rfl⟩,.slice ao n' cap,w1,w2,?_,hown',fun x hx=>setCell_other w2 hx _ _,setCell_size _ _ _,rfl,rfl,rfl,hgrow,hoth,hsz,hos,htp,hout,hnew⟩
 rw[setCell_heap hb2]
 rfl
theorem grown_drew (w:World) (row:Option Nat):w.grownBy w.drew row:=⟨rfl,rfl,rfl,Nat.le_refl _,fun _ _ _=>rfl⟩
theorem grown_freeze {w a:World} {g:Nat} (h:a.grownBy w (some g)) (n:Nat):a.grownBy (w.freeze ⟨g,0,none⟩ n) (some g):=by
 unfold World.freeze
 split
 ·exact h
 ·refine⟨h.os,h.tape,h.output,by simpa using h.size,fun k hk hne=>?_⟩
  simp only[Array.getElem?_modify]
  rw[if_neg (fun e=>hne (by rw[←e]))]
  exact h.block k hk hne
set_option maxRecDepth 100000 in
set_option maxHeartbeats 4000000 in
theorem string_run (b:Nat) (p v:Value) (l:List UInt8) (w:World) (hb:w.heap[b]?=some (.cells #[p,v] 127 (0,0)))
  (hown:w.ownsRow 0 5 1 v l.length (l.map fun x=>Value.int .u8 x.toNat)) :
  Calls Tryz.prog 71 #[.pointer (some ⟨b,0,none⟩)] w fun e w'=>e=.returned (.string ⟨l.toArray⟩)∧w.grownBy w' v.ownBlock:=by
 have hUS0:∀(W:World) q,(Builtin.unsafeString_ #[176,3] 9 #[.pointer q,.int .i64 0]).run Tryz.prog W=.ok (.string .empty) W:=fun W q=>Lib.run_unsafeString_none W _ _ _ q
 have c1:w.drew.cell? ⟨b,1,none⟩=some v:=by
  have:w.drew.heap[b]?=some (.cells #[p,v] 127 (0,0)):=hb
  rw[Lib.cell_of_heap this];rfl
 rcases hown.2 with⟨rfl,hz⟩ |⟨g,cap,cur,rfl,hbg,hg,hnc,hcm,hcs,htake⟩
 ·have:l=[]:=List.eq_nil_of_length_eq_zero hz
  subst this
  have hSD:(Builtin.unsafeSliceData_ #[112] 176 #[.slice none 0 0]).run Tryz.prog w.drew=.ok (.pointer none) w.drew:=rfl
  go_enter Tryz.func71,Tryz.ntmps71
  go_wp2
  go_region
  all_goals (go_wp2;go_ret;exact⟨rfl,grown_drew w _⟩)
 ·have hbw:w.drew.heap[b]?=some (.cells #[p,.slice (some ⟨g,0,none⟩) l.length cap] 127 (0,0)):=hb
  by_cases h0:l=[]
  ·subst h0
   by_cases hc:cap=0
   ·subst hc
    have hlt:b<w.heap.size:=by
     rcases Nat.lt_or_ge b w.heap.size with h' |h'
     ·exact h'
     ·simp[Array.getElem?_eq_none h'] at hb
    have hg':w.drew.heap[g]?=some (.cells cur 5 (0,0)):=hg
    have hSD:(Builtin.unsafeSliceData_ #[112] 176 #[.slice (some ⟨g,0,none⟩) 0 0]).run Tryz.prog w.drew=.ok (.pointer (some ⟨w.drew.heap.size,0,none⟩)) (w.drew.alloc (.view ⟨g,0,none⟩ 5)) :=
     Lib.run_unsafeSliceData_zero w.drew _ _ 5 (show Tryz.prog.underlying 176=some (.pointer 5) by kernel_rfl) ⟨g,0,none⟩ 0 (5,cur.size) (by simp[World.shape?,hg'])
    have c2:(w.drew.alloc (.view ⟨g,0,none⟩ 5)).cell? ⟨b,1,none⟩=some (.slice (some ⟨g,0,none⟩) 0 0):=by
     have:(w.drew.alloc (.view ⟨g,0,none⟩ 5)).heap[b]?=_:=(Lib.alloc_old w.drew _ b hlt).trans hbw
     rw[Lib.cell_of_heap this];rfl
    have c3:(w.alloc (.view ⟨g,0,none⟩ 5)).drew.cell? ⟨b,1,none⟩=some (.slice (some ⟨g,0,none⟩) 0 0):=c2
    have c0:w.cell? ⟨b,1,none⟩=some (.slice (some ⟨g,0,none⟩) 0 0):=c1
    go_enter Tryz.func71,Tryz.ntmps71
    go_wp2
    go_region
    all_goals (go_wp2;go_ret;exact⟨rfl,rfl,rfl,rfl,(World.grownBy_alloc w.drew _ none).size,fun k hk _=>(World.grownBy_alloc w.drew _ none).block k hk (by simp)⟩)
   ·have hSD:(Builtin.unsafeSliceData_ #[112] 176 #[.slice (some ⟨g,0,none⟩) 0 cap]).run Tryz.prog w.drew=.ok (.pointer (some ⟨g,0,none⟩)) w.drew :=
     Lib.run_unsafeSliceData_row _ _ _ _ _ _ hc
    clear hc
    go_enter Tryz.func71,Tryz.ntmps71
    go_wp2
    go_region
    all_goals (go_wp2;go_ret;exact⟨rfl,grown_drew w _⟩)
  ·have hl0:l.length≠0:=by simpa using h0
   have hSD:(Builtin.unsafeSliceData_ #[112] 176 #[.slice (some ⟨g,0,none⟩) l.length cap]).run Tryz.prog w.drew=.ok (.pointer (some ⟨g,0,none⟩)) w.drew :=
    Lib.run_unsafeSliceData_row _ _ _ _ _ _ (by omega)
   have hUS:(Builtin.unsafeString_ #[176,3] 9 #[.pointer (some ⟨g,0,none⟩),.int .i64 l.length]).run Tryz.prog w.drew=.ok (.string ⟨l.toArray⟩) (w.drew.freeze ⟨g,0,none⟩ l.length):=by
    refine Lib.run_unsafeString_row w.drew 176 3 9 5 (show Tryz.prog.underlying 176=some (.pointer 5) by kernel_rfl) (show Tryz.prog.cellsOf 5=1 by kernel_rfl) g cur.size (by have hg':w.drew.heap[g]?=some (.cells cur 5 (0,0)):=hg;simp[World.shape?,hg']) l h0 (by omega) (by unfold maxLen at hcm;omega) ?_
    intro j x hx
    have:=hown.cells (g:=g) rfl j (.int .u8 x.toNat) (by simp[hx])
    exact this
   clear hUS0
   go_enter Tryz.func71,Tryz.ntmps71
   go_wp2
   go_region
   all_goals (go_wp2;go_ret;exact⟨rfl,grown_freeze (grown_drew w _) _⟩)
theorem bld_box {w:World} {K:Kinds} {y:shBld.den} (hh:HeapOk w K (enum 0 (savs [shBld] y))) {b:Nat} (hb:b<w.heap.size) (hk:K b=.box 0) :
  ∃p v,w.heap[b]?=some (.cells #[p,v] 127 (0,0))∧(p=.pointer none∨p=.pointer (some ⟨b,0,none⟩))∧w.ownsRow 0 5 1 v (List.length y.2.1) (List.map (fun x:UInt8=>Value.int .u8 x.toNat) y.2.1) ∧
   (∀g,v.ownBlock=some g→K g=.row 0 0∧g<w.heap.size)∧∃A n c,v=.slice A n c:=by
 obtain⟨av,o,h1,h2,h3⟩:=hh.cells b 0 hb hk
 have e1:av=⟨shBld,y⟩:=by
  have:some (⟨shBld,y⟩:AV)=some av:=h1
  cases this
  rfl
 subst e1
 obtain⟨cs,rfl,c1,c2,hcs,⟨q,hq,hq'⟩,c3,c4,hc34,⟨A,n,cap,hA,hA'⟩,h5⟩:=h3
 have h5':c4=[]:=h5
 subst h5' hA hc34 hq
 have hcs':cs=#[.pointer q,.slice A n cap]:=by
  apply Array.ext'
  rw[hcs]
  rfl
 subst hcs'
 refine⟨_,_,h2,?_,?_,?_,_,_,_,rfl⟩
 ·rcases hq' with rfl |⟨b',rfl,hb1,hb2⟩
  ·exact .inl rfl
  ·rw[hh.uniq b' b 0 hb2 hb hb1 hk]
   exact .inr rfl
 ·rcases hA' with⟨rfl,rfl,rfl,hx⟩ |⟨g,cur,rfl,hg1,hg2,hg3,hg4,hg5,hg6,hg7⟩
  ·rw[hx]
   exact⟨rfl,.inl ⟨rfl,rfl⟩⟩
  ·subst hg3
   exact⟨by simp,.inr ⟨g,cap,cur,rfl,Nat.zero_le _,hg2,hg4,hg5,by rw[hg6,Nat.mul_one],by rw[Nat.mul_one];exact hg7⟩⟩
 ·intro g hg
  rcases hA' with⟨rfl,_⟩ |⟨g',cur,rfl,hg1,hg2,_⟩
  ·cases hg
  ·simp only[Value.ownBlock,Option.some.injEq] at hg
   subst hg
   exact⟨hg1,(Array.getElem?_eq_some_iff.1 hg2).1⟩
def newK (w:World) (K:Kinds) (v:Value):Kinds:=fun k=>if k<w.heap.size then K k else if v.ownBlock=some k then .row 0 0 else .old
theorem newK_old {w:World} {K:Kinds} {v:Value} {k:Nat} (h:k<w.heap.size):newK w K v k=K k:=if_pos h
theorem newK_box {w:World} {K:Kinds} {v:Value} {k id:Nat} (h:newK w K v k=.box id):k<w.heap.size∧K k=.box id:=by
 unfold newK at h
 split at h
 ·exact⟨by assumption,h⟩
 ·split at h<;>cases h
theorem bld_ext {w w':World} {K:Kinds} {b:Nat} {v u:Value} {cs cs':Array Value} {T:TypeId} (os:w'.os=w.os) (tape:w'.tape=w.tape) (output:w'.output=w.output) (size:w.heap.size≤w'.heap.size)
  (hkb:K b=.box 0) (hv:∀g,v.ownBlock=some g→K g=.row 0 0) (hb:w.heap[b]?=some (.cells cs T (0,0))) (hb':w'.heap[b]?=some (.cells cs' T (0,0))) (hsz:cs.size≤cs'.size)
  (hoth:∀k,k<w.heap.size→k≠b→some k≠v.ownBlock→w'.heap[k]?=w.heap[k]?):Ext w K w' (newK w K u) where
 os:=os
 tape:=tape
 output:=output
 size:=size
 fix:=fun k hk hf=>⟨newK_old hk,hoth k hk (fun e=>by rw[e,hkb] at hf;cases hf) (fun e=>by rw[hv k e.symm] at hf;cases hf)⟩
 stab:=fun k o hk hs=>by
  refine⟨by unfold Stab at *;rw[newK_old hk];exact hs,World.cell?_of_block (hoth k hk (fun e=>?_) (fun e=>?_))⟩
  ·unfold Stab at hs
   rw[e,hkb] at hs
   exact hs.elim
  ·unfold Stab at hs
   rw[hv k e.symm] at hs
   exact absurd hs (Nat.not_lt_zero _)
 box:=fun k id hk h=>by rw[newK_old hk];exact h
 bsz:=fun k id n hk h hn=>by
  by_cases e:k=b
  ·subst e
   obtain⟨c,T',h1,h2⟩:=hn
   rw[hb] at h1
   cases h1
   exact⟨_,_,hb',Nat.le_trans h2 hsz⟩
  ·obtain⟨c,T',h1,h2⟩:=hn
   exact⟨c,T',(hoth k hk e (fun e=>by rw[hv k e.symm] at h;cases h)).trans h1,h2⟩
theorem heap_one {w':World} {w:World} {K:Kinds} {s:Sh} {y:s.den} {s':Sh} {x':s'.den} {b:Nat} {u:Value} {o:Obj} (hh:HeapOk w K (enum 0 (savs [s] y))) (hb:b<w.heap.size) (hkb:K b=.box 0) (hb':w'.heap[b]?=some o) (ho:BoxOk w' (newK w K u) s' x' o) :
  HeapOk w' (newK w K u) (enum 0 (savs [s'] x')) where
 cells:=fun k id hk h=>by
  obtain⟨h1,h2⟩:=newK_box h
  obtain⟨av,o',l1,_⟩:=hh.cells k id h1 h2
  have hid:id<0+1:=look_enum_lt [⟨s,y⟩] 0 id av l1
  have:id=0:=by omega
  subst this
  have:=hh.uniq k b 0 h1 hb h2 hkb
  subst this
  exact⟨⟨s',x'⟩,o,rfl,hb',ho⟩
 uniq:=fun k k' id hk hk' h h'=>by
  obtain⟨h1,h2⟩:=newK_box h
  obtain⟨h3,h4⟩:=newK_box h'
  exact hh.uniq k k' id h1 h3 h2 h4
theorem write_body:BodyOk Tryz.prog 70 body_WriteString:=by
 intro args h0 nx Kc r hrun w K vs hvs hh Rf hk _
 simp only[body_WriteString,bodyT] at hrun
 split at hrun
 ·rename_i x y hx hy
  cases hG:qcK y.2.1 x.2 with
  |false=>rw[hG] at hrun;cases hrun
  |true =>
   rw[hG] at hrun
   simp only[cond_true] at hrun
   have hho:=hh.to hy
   have hrv:=toAll_RVs _ args x vs hx hvs
   match vs,hrv with
   |v1::v2::vr,hrv =>
   obtain⟨r1,r2,r3⟩:=hrv
   have hvr:vr=[]:=by
    cases vr with
    |nil=>rfl
    |cons _ _=>exact r3.elim
   subst hvr
   obtain⟨b,rfl,hkb,hb⟩:=RV.box r1
   have e2:=RV.str r2
   subst e2
   obtain⟨p,v,hbk,hp,hown,hrow,A,n,c,hvA⟩:=bld_box hho hb hkb
   have hne:v.ownBlock≠some b:=fun e=>by have:=(hrow b e).1;rw[hkb] at this;cases this
   have hlen:(List.map (fun x:UInt8=>Value.int .u8 x.toNat) y.2.1).length+(⟨⟨x.2⟩⟩:ByteArray).size≤140737488355328:=by
    have:=Nat.le_of_ble_eq_true (show Nat.ble (List.length y.2.1+List.length x.2) 140737488355328=true from hG)
    simpa [ByteArray.size] using this
   refine(write_run b p v (List.map (fun x:UInt8=>Value.int .u8 x.toNat) y.2.1) ⟨⟨x.2⟩⟩ w hbk hp (by rw[List.length_map];exact hown) hne hlen).mono ?_
   rintro e w' ⟨⟨rr,rfl⟩,v',w1,w2,hb',hown',hoth2,hsz2,hos2,htp2,hout2,hgrow,hoth1,hsz1,hos1,htp1,hout1,hnew⟩
   have hrow':∀g,v'.ownBlock=some g→newK w K v' g=.row 0 0∧g≠b:=fun g hg=>by
    rcases hnew with e |e
    ·obtain⟨h1,h2⟩:=hrow g (by rw[←e];exact hg)
     exact⟨(newK_old h2).trans h1,fun e=>by rw[e,hkb] at h1;cases h1⟩
    ·have:=e g hg
     refine⟨?_,by omega⟩
     unfold newK
     rw[if_neg (by omega),if_pos hg]
   refine hk ⟨.top,()⟩ rr _ _ w' (newK w K v') (bld_ext (by rw[hos2,hgrow.os,hos1]) (by rw[htp2,hgrow.tape,htp1]) (by rw[hout2,hgrow.output,hout1]) (by rw[hsz2,←hsz1];exact hgrow.size) hkb (fun g hg=>(hrow g hg).1) hbk hb' (Nat.le_refl _) (fun k hk hkb hkv=>?_)) trivial
    (heap_one hho hb hkb hb' ?_) hrun
   ·rw[hoth2 k hkb,hgrow.block k (by rw[hsz1];exact hk) hkv,hoth1 k hkb]
   ·refine⟨_,rfl,[_],[_],rfl,⟨_,rfl,.inr ⟨b,rfl,(newK_old hb).trans hkb,by rw[hsz2];exact Nat.lt_of_lt_of_le (by rw[hsz1];exact hb) hgrow.size⟩⟩,[_],[],rfl,?_,rfl⟩
    have hm:List.map (fun x:UInt8=>Value.int .u8 x.toNat) y.2.1++Lib.strCells ⟨⟨x.2⟩⟩=List.map (fun x:UInt8=>Value.int .u8 x.toNat) (y.2.1++x.2):=by
     simp[Lib.strCells]
    rw[hm,List.length_map] at hown'
    have hl:List.length y.2.1+(⟨⟨x.2⟩⟩:ByteArray).size=List.length (y.2.1++x.2):=by simp[ByteArray.size]
    rw[hl] at hown'
    rcases hown'.2 with⟨rfl,hz⟩ |⟨g,cap,cur,rfl,_,hg,hnc,hcm,hcs,htake⟩
    ·exact⟨_,_,_,rfl,.inl ⟨rfl,rfl,rfl,List.eq_nil_of_length_eq_zero hz⟩⟩
    ·obtain⟨q1,q2⟩:=hrow' g rfl
     exact⟨_,_,_,rfl,.inr ⟨g,cur,rfl,q1,(hoth2 g q2).trans hg,rfl,hnc,hcm,by simpa using hcs,by simpa [qd7] using htake⟩⟩
 ·cases hrun
theorem string_body:BodyOk Tryz.prog 71 body_String:=by
 intro args h0 nx Kc r hrun w K vs hvs hh Rf hk _
 simp only[body_String,bodyT] at hrun
 split at hrun
 ·rename_i x y hx hy
  simp only[cond_true] at hrun
  have hho:=hh.to hy
  have hrv:=toAll_RVs _ args x vs hx hvs
  match vs,hrv with
  |v1::vr,hrv =>
  obtain⟨r1,r3⟩:=hrv
  have hvr:vr=[]:=by
   cases vr with
   |nil=>rfl
   |cons _ _=>exact r3.elim
  subst hvr
  obtain⟨b,rfl,hkb,hb⟩:=RV.box r1
  obtain⟨p,v,hbk,hp,hown,hrow,A,n,c,hvA⟩:=bld_box hho hb hkb
  have hne:some b≠v.ownBlock:=fun e=>by have:=(hrow b e.symm).1;rw[hkb] at this;cases this
  refine(string_run b p v y.2.1 w hbk hown).mono ?_
  rintro e w' ⟨rfl,hgrow⟩
  have hb':w'.heap[b]?=_:=(hgrow.block b hb hne).trans hbk
  refine hk ⟨.ty .str,y.2.1⟩ _ _ _ w' (newK w K (.bool true)) (bld_ext hgrow.os hgrow.tape hgrow.output hgrow.size hkb (fun g hg=>(hrow g hg).1) hbk hb' (Nat.le_refl _) (fun k hk _ hkv=>hgrow.block k hk hkv)) ⟨rfl,⟨(fun h=>by cases h),(fun _ c h=>by cases h)⟩⟩
   (heap_one hho hb hkb hb' ?_) hrun
  subst hvA
  rcases hp with rfl |rfl
  ·exact⟨_,rfl,[_],[_],rfl,⟨_,rfl,.inl rfl⟩,[_],[],rfl,⟨_,rfl,rfl⟩,rfl⟩
  ·exact⟨_,rfl,[_],[_],rfl,⟨_,rfl,.inr ⟨b,rfl,(newK_old hb).trans hkb,Nat.lt_of_lt_of_le hb hgrow.size⟩⟩,[_],[],rfl,⟨_,rfl,rfl⟩,rfl⟩
 ·cases hrun
end Go.Proofs.YtealbjacocgjcaaGreat
end
section
namespace Go.Proofs.YtealbjacocgjcaaGreat
open Go Go.RowKit Go.Av Go.Proofs
set_option maxRecDepth 100000 in
set_option maxHeartbeats 4000000 in
theorem offset_run (b mb g g2 n cap n2 cap2 o o2:Nat) (i j lab x y:Int) (w:World)
  (c0:w.cell? ⟨b,0,none⟩=some (.slice (some ⟨g,o,none⟩) n cap)) (c2:w.cell? ⟨b,2,none⟩=some (.map (some mb)))
  (ci:w.cell? ⟨g,o+i.toNat*10+1,none⟩=some (.int .i64 lab)) (hi:0≤i∧i<(n:Int))
  (hl:∀m:Nat,(Instr.lookup 118 (.map (some mb)) (.int .i64 lab) false).run Tryz.prog (w.drewN m)=.ok (.int .i64 j) (w.drewN m))
  (hj:0≤j∧j<(n2:Int)) (hi2:0≤i∧i<(n2:Int)) (cj:w.cell? ⟨g2,o2+j.toNat,none⟩=some (.int .i64 x)) (ck:w.cell? ⟨g2,o2+i.toNat,none⟩=some (.int .i64 y)) :
  Calls Tryz.prog 68 #[.pointer (some ⟨b,0,none⟩),.slice (some ⟨g2,o2,none⟩) n2 cap2,.int .i64 i] w fun e w'=>e=.returned (.int .i64 (wrap64 (wrap64 (x-y)-4)))∧∃m,w'=w.drewN m:=by
 go_enter Tryz.func68,Tryz.ntmps68
 go_wp2
 go_quiet (fail)
 go_wp2
 go_ret
 exact⟨rfl,_,rfl⟩
theorem drew_ext (w:World) (K:Kinds) (m:Nat):Ext w K (w.drewN m) K :=
 ⟨rfl,rfl,rfl,Nat.le_refl _,fun _ _ _=>⟨rfl,rfl⟩,fun _ _ _ h=>⟨h,rfl⟩,fun _ _ _ h=>h,fun _ _ _ _ _ h=>h⟩
theorem label_at {w:World} {K:Kinds}:∀(it:List tItem.den) (cc:List Value) (i:Nat),RL (RT w K tItem) it cc→i<it.length→cc[i*10+1]?=some (.int .i64 (it.getD i (Ty.dflt tItem)).2.1)
 |[],_,_,_,h=>absurd h (Nat.not_lt_zero _)
 |x::it,_,0,⟨_,_,rfl,h1,_⟩,_=>by
  obtain⟨d1,d2,rfl,e1,e2⟩:=h1
  obtain⟨d3,d4,rfl,e3,_⟩:=e2
  have e1':d1=[.int .i64 x.1]:=e1
  have e3':d3=[.int .i64 x.2.1]:=e3
  subst e1' e3'
  rfl
 |x::it,_,i+1,⟨c1,c2,rfl,h1,h2⟩,h=>by
  have hl:c1.length=10:=RT.length tItem x c1 h1
  have:=label_at it c2 i h2 (by simpa using h)
  rw[show(i+1)*10+1=10+(i*10+1) by omega,List.getElem?_append_right (by omega),hl,show 10+(i*10+1)-10=i*10+1 by omega,this]
  rfl
theorem int_at {w:World} {K:Kinds}:∀(l:List Int) (cc:List Value) (i:Nat),RL (RT w K (.int .i64)) l cc→i<l.length→cc[i]?=some (.int .i64 (l.getD i 0))
 |[],_,_,_,h=>absurd h (Nat.not_lt_zero _)
 |x::l,_,0,⟨_,_,rfl,h1,_⟩,_=>by
  rw[show _=[Value.int .i64 x] from h1]
  rfl
 |x::l,_,i+1,⟨c1,c2,rfl,h1,h2⟩,h=>by
  have e:c1=[Value.int .i64 x]:=h1
  subst e
  exact int_at l c2 i h2 (by simpa using h)
theorem inRange_facts {i:Int} {n:Nat} (h:inRange i n=true):0≤i∧i<(n:Int):=by
 unfold inRange at h
 simpa using h
theorem offset_plain:PlainOk Tryz.prog 68 snap_asm_assembler_offset:=by
 intro args v h w K vs hvs _
 unfold snap_asm_assembler_offset at h
 split at h
 ·match vs,hvs with
  |u::vs,hvs =>
   obtain⟨ts,_,ht⟩:=hvs.1
   exact ht.elim
 ·cases h
theorem offset_snap:SnapOk Tryz.prog 68 snap_asm_assembler_offset:=by
 intro sl en rest v h w K p vs hat hvs hfix
 unfold snap_asm_assembler_offset at h
 split at h
 ·rename_i l a0 e it en' at_ i heq
  simp only[List.cons.injEq] at heq
  obtain⟨_,rfl,rfl,rfl⟩:=heq
  split at h
  ·rename_i he _
   subst he
   simp only[Option.some.injEq,Prod.mk.injEq] at h
   obtain⟨hg,rfl⟩:=h
   obtain⟨b,cs,T,c0,c1,mb,cr,ob,rfl,hb,hcs,h0,hm,hmo⟩:=hat
   match vs,hvs with
   |va::vi::vr,hvs =>
   obtain⟨hva,hvi,hvr⟩:=hvs
   have hvr':vr=[]:=by
    cases vr with
    |nil=>rfl
    |cons _ _=>exact hvr.elim
   subst hvr'
   have evi:vi=.int .i64 i:=RV.int hvi
   subst evi
   obtain⟨A2,len2,cap2,rfl,A3,len3,cap3,e3,x1,x2,x3,x4⟩:=RV.sl hva
   simp only[List.cons.injEq,and_true,Value.slice.injEq] at e3
   obtain⟨rfl,rfl,rfl⟩:=e3
   obtain⟨A,len,cap,hc0,y1,y2,y3,y4⟩:=h0
   simp only[List.cons.injEq,and_true] at hc0
   subst hc0
   obtain⟨es,mc,rfl,hmis⟩:=hmo
   unfold qcq at hg
   simp only[Bool.and_eq_true] at hg
   obtain⟨g1,g2,g3⟩:=hg
   have i1:=inRange_facts g1
   have i2:=inRange_facts g2
   have i3:=inRange_facts g3
   have hlen:0<len:=by
    have:(0:Int)<(List.length it:Int):=by omega
    have e1:len=List.length it:=y1
    omega
   have hlen2:0<len2:=by
    have:(0:Int)<(List.length at_:Int):=by omega
    have e1:len2=List.length at_:=x1
    omega
   obtain⟨a,rfl⟩:∃a,A=some a:=by
    cases A with
    |none=>have:=y3 rfl;omega
    |some a=>exact⟨a,rfl⟩
   obtain⟨a2,rfl⟩:∃a,A2=some a:=by
    cases A2 with
    |none=>have:=x3 rfl;omega
    |some a=>exact⟨a,rfl⟩
   obtain⟨cc,q1,q2⟩:=y4 a rfl
   obtain⟨cc2,p1,p2⟩:=x4 a2 rfl
   have t1:=label_at it cc i.toNat q1 (by omega)
   have t2:=int_at at_ cc2 (mval en' (it.getD i.toNat (Ty.dflt tItem)).2.1).toNat p1 (by omega)
   have t3:=int_at at_ cc2 i.toNat p1 (by omega)
   obtain⟨s1,s2,_⟩:=q2 _ _ t1
   obtain⟨s3,s4,_⟩:=p2 _ _ t2
   obtain⟨_,s5,_⟩:=p2 _ _ t3
   obtain⟨ab,ao,asp⟩:=a
   obtain⟨ab2,ao2,asp2⟩:=a2
   have s1':asp=none:=s1
   have s3':asp2=none:=s3
   subst s1' s3'
   have hcell:∀k,w.cell? ⟨b,k,none⟩=cs[k]?:=fun k=>by
    simp[World.cell?,hb]
   have hk:∀k:Nat,cs[k]?=cs.toList[k]?:=fun k=>by simp
   have hml:∀m:Nat,(Instr.lookup 118 (.map (some mb)) (.int .i64 (it.getD i.toNat (Ty.dflt tItem)).2.1) false).run Tryz.prog (w.drewN m)=.ok (.int .i64 (mval en' (it.getD i.toNat (Ty.dflt tItem)).2.1)) (w.drewN m):=fun m =>
    run_lookup (w:=w.drewN m) (t:=118) (by kernel_rfl) hm hmis _ false
   refine(offset_run b mb ab ab2 len cap len2 cap2 ao ao2 i _ _ _ _ w (by rw[hcell,hk,hcs];rfl) (by rw[hcell,hk,hcs];rfl) s2 ⟨i1.1,by rw[y1];exact i1.2⟩ hml ⟨i2.1,by rw[x1];exact i2.2⟩ ⟨i3.1,by rw[x1];exact i3.2⟩ s4 s5).mono ?_
   rintro e w' ⟨rfl,m,rfl⟩
   refine⟨_,K,rfl,drew_ext w K m,fun b' id hb' hk'=>?_,RV.scalar (av:=.int .i64 _) ?_ rfl rfl⟩
   rotate_left
   ·show[Value.int .i64 _]=[Value.int .i64 _]
    unfold qF
    simp only[IntKind.wrap_i64,wrap64]
   have:=hfix b' hb'
   rw[hk'] at this
   cases this
  ·cases h
 ·cases h
end Go.Proofs.YtealbjacocgjcaaGreat
end
section
namespace Go.Proofs.YtealbjacocgjcaaGreat
open Go Go.Av Go.Proofs
noncomputable def cRE20:Ctx:=baseC Tryz.prog [31,33,57,23,95,50,193,90,81,44,41,184]
theorem cRE20_good:Av.Good cRE20:=good_base (by kernel_rfl) (by kernel_rfl) (by kernel_rfl)
noncomputable def cRE21:Ctx:=cRE20.addPlain 127 (plainT qfr qi5 qgW qU)
theorem cRE21_good:Av.Good cRE21:=cRE20_good.fnP qgW qbB qi5 qU 2 8 (by kernel_rfl) (fun x=>by kernel_rfl) qlT
noncomputable def cRE22:Ctx:=cRE21.addPlain 128 (plainT qgd qjL qhM qbf)
theorem cRE22_good:Av.Good cRE22:=cRE21_good.fnP qhM qcL qjL qbf 2 8 (by kernel_rfl) (fun x=>by kernel_rfl) ql9
noncomputable def cRE23:Ctx:=cRE22.addPlain 126 (plainT qfn qi8 qgZ qz)
theorem cRE23_good:Av.Good cRE23:=cRE22_good.fnP qgZ q7 qi8 qz 2 8 (by kernel_rfl) (fun x=>by kernel_rfl) qlN
noncomputable def cRE24:Ctx:=cRE23.addPlain 102 (plainT qfU qjD qhS qP)
theorem cRE24_good:Av.Good cRE24:=cRE23_good.fnP qhS qdd qjD qP 3 8 (by kernel_rfl) (fun x=>by kernel_rfl) qmf
noncomputable def cRE25:Ctx:=cRE24.addPlain 125 (plainT qfx qi6 qg2 qcV)
theorem cRE25_good:Av.Good cRE25:=cRE24_good.fnP qg2 qcU qi6 qcV 3 8 (by kernel_rfl) (fun x=>by kernel_rfl) qlO
noncomputable def cRE26:Ctx:=cRE25.addPlain 105 (plainT qgb qjG qhu qd)
theorem cRE26_good:Av.Good cRE26:=cRE25_good.fnP qhu qV qjG qd 3 8 (by kernel_rfl) (fun x=>by kernel_rfl) ql4
noncomputable def cRE27:Ctx:=cRE26.addPlain 143 (plainT qhf qu qjf qe)
theorem cRE27_good:Av.Good cRE27:=cRE26_good.fnP qjf qd6 qu qe 2 6 (by kernel_rfl) (fun x=>by kernel_rfl) qmw
noncomputable def cRE28:Ctx:=cRE27.addPlain 130 (plainT qeM qbj qgm qZ)
theorem cRE28_good:Av.Good cRE28:=cRE27_good.fnP qgm qj qbj qZ 4 8 (by kernel_rfl) (fun x=>by kernel_rfl) qlx
noncomputable def cRE29:Ctx:=cRE28.addPlain 129 (plainT qgM qgv qii qgQ)
theorem cRE29_good:Av.Good cRE29:=cRE28_good.fnP qii qbV qgv qgQ 4 8 (by kernel_rfl) (fun x=>by kernel_rfl) qmo
noncomputable def cRE210:Ctx:=cRE29.addPlain 144 (plainT qfW qdf qhv qdc)
theorem cRE210_good:Av.Good cRE210:=cRE29_good.fnP qhv qL qdf qdc 4 8 (by kernel_rfl) (fun x=>by kernel_rfl) qlY
noncomputable def cRE211:Ctx:=cRE210.addPlain 145 (plainT qgJ qio qiu qiq)
theorem cRE211_good:Av.Good cRE211:=cRE210_good.fnP qiu qbz qio qiq 4 8 (by kernel_rfl) (fun x=>by kernel_rfl) qmm
noncomputable def cRE212:Ctx:=cRE211.addPlain 131 (plainT qfk qg1 qhb qgX)
theorem cRE212_good:Av.Good cRE212:=cRE211_good.fnP qhb qo qg1 qgX 4 8 (by kernel_rfl) (fun x=>by kernel_rfl) qlI
noncomputable def cRE213:Ctx:=cRE212.addPlain 106 (plainT qgI qcv qh9 qS)
theorem cRE213_good:Av.Good cRE213:=cRE212_good.fnP qh9 qn qcv qS 4 8 (by kernel_rfl) (fun x=>by kernel_rfl) qmn
noncomputable def cRE214:Ctx:=cRE213.addPlain 103 (plainT qgD qkf qiB qba)
theorem cRE214_good:Av.Good cRE214:=cRE213_good.fnP qiB qj4 qkf qba 4 8 (by kernel_rfl) (fun x=>by kernel_rfl) qmr
noncomputable def cRE215:Ctx:=cRE214.addPlain 110 (plainT qhp qkD qjd qp)
theorem cRE215_good:Av.Good cRE215:=cRE214_good.fnP qjd qlk qkD qp 2 8 (by kernel_rfl) (fun x=>by kernel_rfl) qmA
noncomputable def cRE216:Ctx:=cRE215.addPlain 135 (plainT qhh qks qja qbn)
theorem cRE216_good:Av.Good cRE216:=cRE215_good.fnP qja qll qks qbn 2 8 (by kernel_rfl) (fun x=>by kernel_rfl) qmB
noncomputable def cRE217:Ctx:=cRE216.addPlain 115 (plainT qib qk2 qjS qdv)
theorem cRE217_good:Av.Good cRE217:=cRE216_good.fnP qjS qlP qk2 qdv 2 8 (by kernel_rfl) (fun x=>by kernel_rfl) qmQ
noncomputable def cRE218:Ctx:=cRE217.addPlain 171 (plainT qia qk4 qj2 qdY)
theorem cRE218_good:Av.Good cRE218:=cRE217_good.fnP qj2 qlC qk4 qdY 2 8 (by kernel_rfl) (fun x=>by kernel_rfl) qmS
noncomputable def cRE219:Ctx:=cRE218.addPlain 172 (plainT qfv qi9 qg7 qcN)
theorem cRE219_good:Av.Good cRE219:=cRE218_good.fnP qg7 qkJ qi9 qcN 2 8 (by kernel_rfl) (fun x=>by kernel_rfl) qlU
noncomputable def cRE220:Ctx:=cRE219.addPlain 154 (plainT qiO qkZ qjT qeP)
theorem cRE220_good:Av.Good cRE220:=cRE219_good.fnP qjT qlA qkZ qeP 2 8 (by kernel_rfl) (fun x=>by kernel_rfl) qmK
noncomputable def cRE221:Ctx:=cRE220.addPlain 155 (plainT qhs qkr qjb qge)
theorem cRE221_good:Av.Good cRE221:=cRE220_good.fnP qjb qlm qkr qge 2 8 (by kernel_rfl) (fun x=>by kernel_rfl) qmD
noncomputable def cRE222:Ctx:=cRE221.addPlain 77 (plainT qiz qk1 qjR qbx)
theorem cRE222_good:Av.Good cRE222:=cRE221_good.fnP qjR qlK qk1 qbx 2 8 (by kernel_rfl) (fun x=>by kernel_rfl) qmH
noncomputable def cRE223:Ctx:=cRE222.addPlain 169 (plainT qih qkX qj0 qeK)
theorem cRE223_good:Av.Good cRE223:=cRE222_good.fnP qj0 qlD qkX qeK 2 8 (by kernel_rfl) (fun x=>by kernel_rfl) qmO
noncomputable def cRE224:Ctx:=cRE223.addPlain 170 (plainT qjv qld qkp qeN)
theorem cRE224_good:Av.Good cRE224:=cRE223_good.fnP qkp qmg qld qeN 2 8 (by kernel_rfl) (fun x=>by kernel_rfl) qmX
noncomputable def cRE225:Ctx:=cRE224.addPlain 134 (plainT qiL qkW qjU qdu)
theorem cRE225_good:Av.Good cRE225:=cRE224_good.fnP qjU qlS qkW qdu 2 8 (by kernel_rfl) (fun x=>by kernel_rfl) qmU
noncomputable def cRE226:Ctx:=cRE225.addPlain 165 (plainT qiP qkV qjP qg0)
theorem cRE226_good:Av.Good cRE226:=cRE225_good.fnP qjP qlH qkV qg0 2 8 (by kernel_rfl) (fun x=>by kernel_rfl) qmL
noncomputable def cRE227:Ctx:=cRE226.addPlain 166 (plainT qiQ qiw qj1 qeG)
theorem cRE227_good:Av.Good cRE227:=cRE226_good.fnP qj1 qlW qiw qeG 2 8 (by kernel_rfl) (fun x=>by kernel_rfl) qmM
noncomputable def cRE228:Ctx:=cRE227.addPlain 167 (plainT qh8 qkS qjO qip)
theorem cRE228_good:Av.Good cRE228:=cRE227_good.fnP qjO qlF qkS qip 2 8 (by kernel_rfl) (fun x=>by kernel_rfl) qmT
noncomputable def cRE229:Ctx:=cRE228.addPlain 168 (plainT qiS qkY qj3 qiC)
theorem cRE229_good:Av.Good cRE229:=cRE228_good.fnP qj3 qlG qkY qiC 2 8 (by kernel_rfl) (fun x=>by kernel_rfl) qmG
noncomputable def cRE230:Ctx:=cRE229.addPlain 164 (plainT qf9 qjI qhC qf8)
theorem cRE230_good:Av.Good cRE230:=cRE229_good.fnP qhC qk5 qjI qf8 2 8 (by kernel_rfl) (fun x=>by kernel_rfl) qmb
noncomputable def cRE231:Ctx:=cRE230.addPlain 173 (plainT qiN qk3 qjQ qgV)
theorem cRE231_good:Av.Good cRE231:=cRE230_good.fnP qjQ qlV qk3 qgV 2 8 (by kernel_rfl) (fun x=>by kernel_rfl) qmP
noncomputable def cRE232:Ctx:=cRE231.addPlain 150 (plainT qhq qkz qjg qd5)
theorem cRE232_good:Av.Good cRE232:=cRE231_good.fnP qjg qjc qkz qd5 2 8 (by kernel_rfl) (fun x=>by kernel_rfl) qmE
noncomputable def cRE233:Ctx:=cRE232.addPlain 139 (plainT qiI qkU qjZ qcc)
theorem cRE233_good:Av.Good cRE233:=cRE232_good.fnP qjZ qg6 qkU qcc 2 8 (by kernel_rfl) (fun x=>by kernel_rfl) qmR
noncomputable def cRE234:Ctx:=cRE233.addLoop 137 2 qeC.toT.toLoop
theorem cRE234_good:Av.Good cRE234:=cRE233_good.loopN qeC 2 8 (by kernel_rfl) (fun _ _=>rfl) (fun x y s m K=>by kernel_rfl) (fun x y s s' K e=>by kernel_rfl)
noncomputable def cRE235:Ctx:=cRE234.addPlain 137 (plainT qhl qd4 qjh qX)
theorem cRE235_good:Av.Good cRE235:=cRE234_good.fnP qjh qkv qd4 qX 2 8 (by kernel_rfl) (fun x=>by kernel_rfl) qmC
noncomputable def cRE236:Ctx:=cRE235.addPlain 151 (plainT qgC qc3 qiT qef)
theorem cRE236_good:Av.Good cRE236:=cRE235_good.fnP qiT qj8 qc3 qef 2 8 (by kernel_rfl) (fun x=>by kernel_rfl) qml
noncomputable def cRE237:Ctx:=cRE236.addPlain 152 (plainT qf1 qjE qhN qfV)
theorem cRE237_good:Av.Good cRE237:=cRE236_good.fnP qhN qgc qjE qfV 2 8 (by kernel_rfl) (fun x=>by kernel_rfl) qlZ
noncomputable def cRE238:Ctx:=cRE237.addPlain 153 (plainT qjm qlc qkq qjp)
theorem cRE238_good:Av.Good cRE238:=cRE237_good.fnP qkq qjr qlc qjp 2 8 (by kernel_rfl) (fun x=>by kernel_rfl) qmY
noncomputable def cRE239:Ctx:=cRE238.addPlain 156 (plainT qf2 qjz qhO qde)
theorem cRE239_good:Av.Good cRE239:=cRE238_good.fnP qhO qhF qjz qde 2 8 (by kernel_rfl) (fun x=>by kernel_rfl) qlX
noncomputable def cRE240:Ctx:=cRE239.addPlain 140 (plainT qhm qhj qjj qgg)
theorem cRE240_good:Av.Good cRE240:=cRE239_good.fnP qjj qgf qhj qgg 2 8 (by kernel_rfl) (fun x=>by kernel_rfl) qmy
noncomputable def cRE241:Ctx:=cRE240.addPlain 116 (plainT qgw qct qit qc)
theorem cRE241_good:Av.Good cRE241:=cRE240_good.fnP qit qgS qct qc 2 8 (by kernel_rfl) (fun x=>by kernel_rfl) qmq
noncomputable def cRE242:Ctx:=cRE241.addPlain 119 (plainT qim qcd qjX qA)
theorem cRE242_good:Av.Good cRE242:=cRE241_good.fnP qjX qjW qcd qA 2 8 (by kernel_rfl) (fun x=>by kernel_rfl) qmF
noncomputable def cRE243:Ctx:=cRE242.addPlain 118 (plainT qgO qbu qiH qbl)
theorem cRE243_good:Av.Good cRE243:=cRE242_good.fnP qiH qir qbu qbl 2 8 (by kernel_rfl) (fun x=>by kernel_rfl) qms
noncomputable def cRE244:Ctx:=cRE243.addPlain 53 (plainT qfz qi0 qha qI)
theorem cRE244_good:Av.Good cRE244:=cRE243_good.fnP qha qeb qi0 qI 2 8 (by kernel_rfl) (fun x=>by kernel_rfl) qlQ
noncomputable def cRE245:Ctx:=cRE244.addPlain 157 (plainT qgT qj9 qif qeq)
theorem cRE245_good:Av.Good cRE245:=cRE244_good.fnP qif qiR qj9 qeq 2 8 (by kernel_rfl) (fun x=>by kernel_rfl) qmh
noncomputable def cRE246:Ctx:=cRE245.addLoop 141 6 qeR.toT.toLoop
theorem cRE246_good:Av.Good cRE246:=cRE245_good.loopN qeR 2 8 (by kernel_rfl) (fun _ _=>rfl) (fun x y s m K=>by kernel_rfl) (fun x y s s' K e=>by kernel_rfl)
noncomputable def cRE247:Ctx:=cRE246.addPlain 141 (plainT qf0 qdP qhE qm)
theorem cRE247_good:Av.Good cRE247:=cRE246_good.fnP qhE qjC qdP qm 2 8 (by kernel_rfl) (fun x=>by kernel_rfl) ql0
noncomputable def cRE248:Ctx:=cRE247.addPlain 74 (plainT qgF qka qh7 qD)
theorem cRE248_good:Av.Good cRE248:=cRE247_good.fnP qh7 qic qka qD 2 8 (by kernel_rfl) (fun x=>by kernel_rfl) qmp
noncomputable def cRE249:Ctx:=cRE248.addLoop 91 6 qds.toT.toLoop
theorem cRE249_good:Av.Good cRE249:=cRE248_good.loopN qds 2 8 (by kernel_rfl) (fun _ _=>rfl) (fun x y s m K=>by kernel_rfl) (fun x y s s' K e=>by kernel_rfl)
noncomputable def cRE250:Ctx:=cRE249.addBody 91 (bodyT qcW qcR qdS qfp qbo ql)
theorem cRE250_good:Av.Good cRE250:=cRE249_good.fnB qdS qfI qbo ql 2 8 (by kernel_rfl) (fun x y=>by kernel_rfl) qkP
noncomputable def cRE251:Ctx:=cRE250.addBody 138 (bodyT qcA qcw qdE qfb qbs qv)
theorem cRE251_good:Av.Good cRE251:=cRE250_good.fnB qdE qfq qbs qv 2 8 (by kernel_rfl) (fun x y=>by kernel_rfl) qkE
noncomputable def cRE252:Ctx:=cRE251.addBody 92 (bodyT qcf qcj qdw qes qe4 qbE)
theorem cRE252_good:Av.Good cRE252:=cRE251_good.fnB qdw qhr qe4 qbE 2 8 (by kernel_rfl) (fun x y=>by kernel_rfl) qki
noncomputable def cRE253:Ctx:=cRE252.addPlain 112 (plainT qeg qhV qfK qJ)
theorem cRE253_good:Av.Good cRE253:=cRE252_good.fnP qfK qel qhV qJ 2 8 (by kernel_rfl) (fun x=>by kernel_rfl) qlf
noncomputable def cRE254:Ctx:=cRE253.addLoop 76 8 qff.toT.toLoop
theorem cRE254_good:Av.Good cRE254:=cRE253_good.loopN qff 2 8 (by kernel_rfl) (fun _ _=>rfl) (fun x y s m K=>by kernel_rfl) (fun x y s s' K e=>by kernel_rfl)
noncomputable def cRE255:Ctx:=cRE254.addLoop 76 15 qeT.toT.toLoop
theorem cRE255_good:Av.Good cRE255:=cRE254_good.loopN qeT 2 8 (by kernel_rfl) (fun _ _=>rfl) (fun x y s m K=>by kernel_rfl) (fun x y s s' K e=>by kernel_rfl)
noncomputable def cRE256:Ctx:=cRE255.addPlain 107 (plainT qgN qkd qid qT)
theorem cRE256_good:Av.Good cRE256:=cRE255_good.fnP qid qiA qkd qT 2 8 (by kernel_rfl) (fun x=>by kernel_rfl) qmi
noncomputable def cRE257:Ctx:=cRE256.addPlain 69 (plainT qfw qdp qg4 qbc)
theorem cRE257_good:Av.Good cRE257:=cRE256_good.fnP qg4 qbi qdp qbc 2 8 (by kernel_rfl) (fun x=>by kernel_rfl) qlz
noncomputable def cRE258:Ctx:=cRE257.addPlain 158 (plainT qfZ qh qhx qb)
theorem cRE258_good:Av.Good cRE258:=cRE257_good.fnP qhx qhD qh qb 2 8 (by kernel_rfl) (fun x=>by kernel_rfl) ql8
noncomputable def cRE259:Ctx:=cRE258.addPlain 148 (plainT qf6 q8 qhP qW)
theorem cRE259_good:Av.Good cRE259:=cRE258_good.fnP qhP qhJ q8 qW 2 8 (by kernel_rfl) (fun x=>by kernel_rfl) ql2
noncomputable def cRE260:Ctx:=cRE259.addPlain 159 (plainT qeL qbb qgk qQ)
theorem cRE260_good:Av.Good cRE260:=cRE259_good.fnP qgk qeZ qbb qQ 2 8 (by kernel_rfl) (fun x=>by kernel_rfl) qlu
noncomputable def cRE261:Ctx:=cRE260.addLoop 174 2 qbw.toT.toLoop
theorem cRE261_good:Av.Good cRE261:=cRE260_good.loopN qbw 2 8 (by kernel_rfl) (fun _ _=>rfl) (fun x y s m K=>by kernel_rfl) (fun x y s s' K e=>by kernel_rfl)
noncomputable def cRE262:Ctx:=cRE261.addPlain 174 (plainT qfS qy qhI qH)
theorem cRE262_good:Av.Good cRE262:=cRE261_good.fnP qhI qjF qy qH 2 8 (by kernel_rfl) (fun x=>by kernel_rfl) ql1
noncomputable def cRE263:Ctx:=cRE262.addPlain 146 (plainT qf4 qjJ qhB qbe)
theorem cRE263_good:Av.Good cRE263:=cRE262_good.fnP qhB qjA qjJ qbe 2 8 (by kernel_rfl) (fun x=>by kernel_rfl) ql3
noncomputable def cRE264:Ctx:=cRE263.addPlain 147 (plainT qeJ qc6 qgq qbp)
theorem cRE264_good:Av.Good cRE264:=cRE263_good.fnP qgq qdH qc6 qbp 2 12 (by kernel_rfl) (fun x=>by kernel_rfl) qlq
noncomputable def cRE265:Ctx:=cRE264.addPlain 160 (plainT qft qdm qgU qbv)
theorem cRE265_good:Av.Good cRE265:=cRE264_good.fnP qgU qd9 qdm qbv 3 12 (by kernel_rfl) (fun x=>by kernel_rfl) qlB
noncomputable def cRE266:Ctx:=cRE265.addPlain 161 (plainT qeo qcM qfN qbm)
theorem cRE266_good:Av.Good cRE266:=cRE265_good.fnP qfN qdq qcM qbm 2 12 (by kernel_rfl) (fun x=>by kernel_rfl) qlg
noncomputable def cRE267:Ctx:=cRE266.addPlain 162 (plainT qfh qdn qg5 qbt)
theorem cRE267_good:Av.Good cRE267:=cRE266_good.fnP qg5 qed qdn qbt 2 12 (by kernel_rfl) (fun x=>by kernel_rfl) qlR
noncomputable def cRE268:Ctx:=cRE267.addPlain 163 (plainT qeH qc4 qgt qbr)
theorem cRE268_good:Av.Good cRE268:=cRE267_good.fnP qgt qdL qc4 qbr 2 12 (by kernel_rfl) (fun x=>by kernel_rfl) qlr
noncomputable def cRE269:Ctx:=cRE268.addPlain 149 (plainT qfX qeE qhL qdO)
theorem cRE269_good:Av.Good cRE269:=cRE268_good.fnP qhL qeB qeE qdO 2 12 (by kernel_rfl) (fun x=>by kernel_rfl) ql5
noncomputable def cRE270:Ctx:=cRE269.addPlain 136 (plainT qeV qdB qgn qk)
theorem cRE270_good:Av.Good cRE270:=cRE269_good.fnP qgn qdG qdB qk 2 12 (by kernel_rfl) (fun x=>by kernel_rfl) qls
noncomputable def cRE271:Ctx:=cRE270.addPlain 113 (plainT qhn qji qje qe9)
theorem cRE271_good:Av.Good cRE271:=cRE270_good.fnP qje qlj qji qe9 2 8 (by kernel_rfl) (fun x=>by kernel_rfl) qmz
noncomputable def cRE272:Ctx:=cRE271.addPlain 10 (plainT qeS qh4 qgs qr)
theorem cRE272_good:Av.Good cRE272:=cRE271_good.fnP qgs qc8 qh4 qr 2 8 (by kernel_rfl) (fun x=>by kernel_rfl) qlp
noncomputable def cRE273:Ctx:=cRE272.addBody 78 (bodyT qcE qcC qdN qe3 qbR qdJ)
theorem cRE273_good:Av.Good cRE273:=cRE272_good.fnB qdN qfe qbR qdJ 3 8 (by kernel_rfl) (fun x y=>by kernel_rfl) qkC
noncomputable def cRE274:Ctx:=cRE273.addCut 114 5 qbA.toT.toLoop
theorem cRE274_good:Av.Good cRE274:=cRE273_good.cutN qbA 2 8 (by kernel_rfl) (fun _ _=>rfl) (fun x y K=>by kernel_rfl)
noncomputable def cRE275:Ctx:=cRE274.addBody 41 (bodyT qcm qce qdt qet qe7 qfc)
theorem cRE275_good:Av.Good cRE275:=cRE274_good.fnB qdt qhk qe7 qfc 2 8 (by kernel_rfl) (fun x y=>by kernel_rfl) qkj
noncomputable def cRE276:Ctx:=cRE275.addBody 43 (bodyT qbT qbX qdk qei qey qew)
theorem cRE276_good:Av.Good cRE276:=cRE275_good.fnB qdk qhe qey qew 2 8 (by kernel_rfl) (fun x y=>by kernel_rfl) qkg
noncomputable def cRE277:Ctx:=cRE276.addBody 50 (bodyT qbG qbH qc7 qdT qb0 qep)
theorem cRE277_good:Av.Good cRE277:=cRE276_good.fnB qc7 qgE qb0 qep 3 8 (by kernel_rfl) (fun x y=>by kernel_rfl) qjV
noncomputable def cRE278:Ctx:=cRE277.addBody 51 (bodyT qb1 qbY qdi qem qev qeA)
theorem cRE278_good:Av.Good cRE278:=cRE277_good.fnB qdi qhd qev qeA 3 8 (by kernel_rfl) (fun x y=>by kernel_rfl) qkb
noncomputable def cRE279:Ctx:=cRE278.addBody 42 (evStep cRE278 drawOk 8 4 42 79 148)
theorem cRE279_good:Av.Good cRE279:=cRE278_good.addBody (step_ok cRE278_good (by kernel_rfl) 8 4) (by kernel_rfl)
noncomputable def cRE280:Ctx:=cRE279.addBody 42 (bodyT qcg qco qdr qez qbh qi)
theorem cRE280_good:Av.Good cRE280:=cRE279_good.fnB qdr qe5 qbh qi 2 8 (by kernel_rfl) (fun x y=>by kernel_rfl) qkk
noncomputable def cRE281:Ctx:=cRE280.addLoop 48 2 qgx.toT.toLoop
theorem cRE281_good:Av.Good cRE281:=cRE280_good.loopN qgx 3 8 (by kernel_rfl) (fun _ _=>rfl) (fun x y s m K=>by kernel_rfl) (fun x y s s' K e=>by kernel_rfl)
noncomputable def cRE282:Ctx:=cRE281.addBody 48 (bodyT qb2 qb3 qdj qen qdh qex)
theorem cRE282_good:Av.Good cRE282:=cRE281_good.fnB qdj qeu qdh qex 3 8 (by kernel_rfl) (fun x y=>by kernel_rfl) qke
noncomputable def cRE283:Ctx:=cRE282.addPlain 133 (plainT qju qgA qkm qhY)
theorem cRE283_good:Av.Good cRE283:=cRE282_good.fnP qkm qgG qgA qhY 2 8 (by kernel_rfl) (fun x=>by kernel_rfl) qmW
noncomputable def cRE284:Ctx:=cRE283.addPlain 109 (plainT qfT qjM qhz qb4)
theorem cRE284_good:Av.Good cRE284:=cRE283_good.fnP qhz qhT qjM qb4 2 8 (by kernel_rfl) (fun x=>by kernel_rfl) ql6
noncomputable def cRE285:Ctx:=cRE284.addPlain 111 (plainT qiE qb9 qjY qx)
theorem cRE285_good:Av.Good cRE285:=cRE284_good.fnP qjY qfM qb9 qx 2 8 (by kernel_rfl) (fun x=>by kernel_rfl) qmJ
noncomputable def cRE286:Ctx:=cRE285.addPlain 72 (plainT qga qjw qhG qO)
theorem cRE286_good:Av.Good cRE286:=cRE285_good.fnP qhG qeD qjw qO 3 8 (by kernel_rfl) (fun x=>by kernel_rfl) qme
noncomputable def cRE287:Ctx:=cRE286.addPlain 73 (plainT qfR qjB qhA qt)
theorem cRE287_good:Av.Good cRE287:=cRE286_good.fnP qhA qhH qjB qt 2 20 (by kernel_rfl) (fun x=>by kernel_rfl) qmd
noncomputable def cRE288:Ctx:=cRE287.addLoop 75 7 qeX.toT.toLoop
theorem cRE288_good:Av.Good cRE288:=cRE287_good.loopN qeX 3 8 (by kernel_rfl) (fun _ _=>rfl) (fun x y s m K=>by kernel_rfl) (fun x y s s' K e=>by kernel_rfl)
noncomputable def cRE289:Ctx:=cRE288.addPlain 75 (plainT qf3 qhK qhy qM)
theorem cRE289_good:Av.Good cRE289:=cRE288_good.fnP qhy qhw qhK qM 4 8 (by kernel_rfl) (fun x=>by kernel_rfl) qmc
noncomputable def cRE290:Ctx:=cRE289.addCut 21 12 qdQ.toT.toLoop
theorem cRE290_good:Av.Good cRE290:=cRE289_good.cutN qdQ 6 12 (by kernel_rfl) (fun _ _=>rfl) (fun x y K=>by kernel_rfl)
noncomputable def cRE291:Ctx:=cRE290.addPlain 21 (plainT qf7 qjx qhR qK)
theorem cRE291_good:Av.Good cRE291:=cRE290_good.fnP qhR qjy qjx qK 6 12 (by kernel_rfl) (fun x=>by kernel_rfl) qma
noncomputable def cRE292:Ctx:=cRE291.addPlain 104 (plainT qgu qej qiM qee)
theorem cRE292_good:Av.Good cRE292:=cRE291_good.fnP qiM qgy qej qee 2 8 (by kernel_rfl) (fun x=>by kernel_rfl) qmt
noncomputable def cRE293:Ctx:=cRE292.addPlain 142 (plainT qgK qkh qil qdy)
theorem cRE293_good:Av.Good cRE293:=cRE292_good.fnP qil qfi qkh qdy 2 8 (by kernel_rfl) (fun x=>by kernel_rfl) qmu
noncomputable def cRE294:Ctx:=cRE293.addPlain 124 (plainT qh6 qkR qjN qcJ)
theorem cRE294_good:Av.Good cRE294:=cRE293_good.fnP qjN qg8 qkR qcJ 2 8 (by kernel_rfl) (fun x=>by kernel_rfl) qmN
noncomputable def cRE295:Ctx:=cRE294.addLoop 67 3 qho.toT.toLoop
theorem cRE295_good:Av.Good cRE295:=cRE294_good.loopN qho 2 8 (by kernel_rfl) (fun _ _=>rfl) (fun x y s m K=>by kernel_rfl) (fun x y s s' K e=>by kernel_rfl)
noncomputable def cRE296:Ctx:=cRE295.addPlain 67 (plainT qjk qfB qko qeO)
theorem cRE296_good:Av.Good cRE296:=cRE295_good.fnP qko qjq qfB qeO 2 8 (by kernel_rfl) (fun x=>by kernel_rfl) qmZ
noncomputable def cRE297:Ctx:=cRE296.addLoop 101 3 qcl.toT.toLoop
theorem cRE297_good:Av.Good cRE297:=cRE296_good.loopN qcl 2 8 (by kernel_rfl) (fun _ _=>rfl) (fun x y s m K=>by kernel_rfl) (fun x y s s' K e=>by kernel_rfl)
noncomputable def cRE298:Ctx:=cRE297.addLoop 99 2 qci.toT.toLoop
theorem cRE298_good:Av.Good cRE298:=cRE297_good.loopN qci 2 8 (by kernel_rfl) (fun _ _=>rfl) (fun x y s m K=>by kernel_rfl) (fun x y s s' K e=>by kernel_rfl)
noncomputable def cRE299:Ctx:=cRE298.addLoop 99 8 qch.toT.toLoop
theorem cRE299_good:Av.Good cRE299:=cRE298_good.loopN qch 2 8 (by kernel_rfl) (fun _ _=>rfl) (fun x y s m K=>by kernel_rfl) (fun x y s s' K e=>by kernel_rfl)
noncomputable def cRE2100:Ctx:=cRE299.addLoop 100 2 qcn.toT.toLoop
theorem cRE2100_good:Av.Good cRE2100:=cRE299_good.loopN qcn 2 8 (by kernel_rfl) (fun _ _=>rfl) (fun x y s m K=>by kernel_rfl) (fun x y s s' K e=>by kernel_rfl)
noncomputable def cRE2101:Ctx:=cRE2100.addLoop 100 11 qbU.toT.toLoop
theorem cRE2101_good:Av.Good cRE2101:=cRE2100_good.loopN qbU 2 8 (by kernel_rfl) (fun _ _=>rfl) (fun x y s m K=>by kernel_rfl) (fun x y s s' K e=>by kernel_rfl)
noncomputable def cRE2102:Ctx:=cRE2101.addBody 70 body_WriteString
theorem cRE2102_good:Av.Good cRE2102:=cRE2101_good.addBody write_body (by kernel_rfl)
noncomputable def cRE2103:Ctx:=cRE2102.addBody 71 body_String
theorem cRE2103_good:Av.Good cRE2103:=cRE2102_good.addBody string_body (by kernel_rfl)
noncomputable def cRE2104:Ctx:=cRE2103.addPlain 68 snap_asm_assembler_offset
theorem cRE2104_good:Av.Good cRE2104:=cRE2103_good.addSnap offset_plain (by kernel_rfl) offset_snap
noncomputable def cRE2105:Ctx:=cRE2104.addBody 99 (bodyT qcx qcr qdF qe1 qbM qa)
theorem cRE2105_good:Av.Good cRE2105:=cRE2104_good.fnB qdF qcX qbM qa 3 8 (by kernel_rfl) (fun x y=>by kernel_rfl) qkw
noncomputable def cRE2106:Ctx:=cRE2105.addBody 100 (bodyT qcu qcB qdC qe2 qbO qf)
theorem cRE2106_good:Av.Good cRE2106:=cRE2105_good.fnB qdC qcP qbO qf 3 8 (by kernel_rfl) (fun x y=>by kernel_rfl) qku
noncomputable def cRE2107:Ctx:=cRE2106.addBody 101 (bodyT qcz qcG qdM qe6 qbN qC)
theorem cRE2107_good:Av.Good cRE2107:=cRE2106_good.fnB qdM qbK qbN qC 3 8 (by kernel_rfl) (fun x y=>by kernel_rfl) qky
noncomputable def cRE2108:Ctx:=cRE2107.addBody 65 (bodyT qcD qcH qdD qfd qbJ qbS)
theorem cRE2108_good:Av.Good cRE2108:=cRE2107_good.fnB qdD qbQ qbJ qbS 4 8 (by kernel_rfl) (fun x y=>by kernel_rfl) qkx
noncomputable def cRE2109:Ctx:=cRE2108.addLoop 66 4 qck.toT.toLoop
theorem cRE2109_good:Av.Good cRE2109:=cRE2108_good.loopN qck 2 8 (by kernel_rfl) (fun _ _=>rfl) (fun x y s m K=>by kernel_rfl) (fun x y s s' K e=>by kernel_rfl)
noncomputable def cRE2110:Ctx:=cRE2109.addBody 66 (bodyT qcy qcs qdK qfa qbL qw)
theorem cRE2110_good:Av.Good cRE2110:=cRE2109_good.fnB qdK qbI qbL qw 3 8 (by kernel_rfl) (fun x y=>by kernel_rfl) qkB
noncomputable def cRE2111:Ctx:=cRE2110.addLoop 38 5 qeh.toT.toLoop
theorem cRE2111_good:Av.Good cRE2111:=cRE2110_good.loopN qeh 3 8 (by kernel_rfl) (fun _ _=>rfl) (fun x y s m K=>by kernel_rfl) (fun x y s s' K e=>by kernel_rfl)
noncomputable def cRE2112:Ctx:=cRE2111.addLoop 38 10 qdR.toT.toLoop
theorem cRE2112_good:Av.Good cRE2112:=cRE2111_good.loopN qdR 3 8 (by kernel_rfl) (fun _ _=>rfl) (fun x y s m K=>by kernel_rfl) (fun x y s s' K e=>by kernel_rfl)
noncomputable def cRE2113:Ctx:=cRE2112.addPlain 38 (plainT qfg qdo qg9 qbd)
theorem cRE2113_good:Av.Good cRE2113:=cRE2112_good.fnP qg9 qcS qdo qbd 3 8 (by kernel_rfl) (fun x=>by kernel_rfl) qlE
noncomputable def cRE2114:Ctx:=cRE2113.addPlain 32 (plainT qle qj7 qla qj6)
theorem cRE2114_good:Av.Good cRE2114:=cRE2113_good.fnP qla qk8 qj7 qj6 3 8 (by kernel_rfl) (fun x=>by kernel_rfl) qmj
noncomputable def cRE2115:Ctx:=cRE2114.addPlain 88 (plainT qfm qi4 qkN qgY)
theorem cRE2115_good:Av.Good cRE2115:=cRE2114_good.fnP qkN qi7 qi4 qgY 3 8 (by kernel_rfl) (fun x=>by kernel_rfl) qly
noncomputable def cRE2116:Ctx:=cRE2115.addPlain 45 (plainT qfy qiZ qkM qbD)
theorem cRE2116_good:Av.Good cRE2116:=cRE2115_good.fnP qkM qi1 qiZ qbD 8 12 (by kernel_rfl) (fun x=>by kernel_rfl) qlJ
noncomputable def cRE2117:Ctx:=cRE2116.addPlain 55 (plainT qht qkA qli qhi)
theorem cRE2117_good:Av.Good cRE2117:=cRE2116_good.fnP qli qln qkA qhi 8 12 (by kernel_rfl) (fun x=>by kernel_rfl) qmx
noncomputable def cRE2118:Ctx:=cRE2117.addLoop 52 2 qby.toT.toLoop
theorem cRE2118_good:Av.Good cRE2118:=cRE2117_good.loopN qby 3 8 (by kernel_rfl) (fun _ _=>rfl) (fun x y s m K=>by kernel_rfl) (fun x y s s' K e=>by kernel_rfl)
noncomputable def cRE2119:Ctx:=cRE2118.addPlain 52 (plainT qfl qea qkL qb5)
theorem cRE2119_good:Av.Good cRE2119:=cRE2118_good.fnP qkL qi3 qea qb5 3 8 (by kernel_rfl) (fun x=>by kernel_rfl) qlM
noncomputable def cRE2120:Ctx:=cRE2119.addPlain 22 (plainT qeU qiG qgl qiJ)
theorem cRE2120_good:Av.Good cRE2120:=cRE2119_good.fnP qgl qgo qiG qiJ 3 8 (by kernel_rfl) (fun x=>by kernel_rfl) qlw
noncomputable def cRE2121:Ctx:=cRE2120.addPlain 24 (plainT qgP qkc qiK qfA)
theorem cRE2121_good:Av.Good cRE2121:=cRE2120_good.fnP qiK qgL qkc qfA 4 8 (by kernel_rfl) (fun x=>by kernel_rfl) qmk
noncomputable def cRE2122:Ctx:=cRE2121.addPlain 23 (plainT qeF qij qgp qiv)
theorem cRE2122_good:Av.Good cRE2122:=cRE2121_good.fnP qgp qgr qij qiv 4 8 (by kernel_rfl) (fun x=>by kernel_rfl) qlt
noncomputable def cRE2123:Ctx:=cRE2122.addPlain 29 (plainT qfs qi2 qhc qec)
theorem cRE2123_good:Av.Good cRE2123:=cRE2122_good.fnP qhc qg3 qi2 qec 3 8 (by kernel_rfl) (fun x=>by kernel_rfl) qlL
noncomputable def cRE2124:Ctx:=cRE2123.addPlain 19 (plainT qc9 qfP qiD qfE)
theorem cRE2124_good:Av.Good cRE2124:=cRE2123_good.fnP qiD qiF qfP qfE 9 12 (by kernel_rfl) (fun x=>by kernel_rfl) qkO
noncomputable def cRE2125:Ctx:=cRE2124.addPlain 26 (plainT qcY qfQ qiy qfF)
theorem cRE2125_good:Av.Good cRE2125:=cRE2124_good.fnP qiy qix qfQ qfF 9 12 (by kernel_rfl) (fun x=>by kernel_rfl) qkI
noncomputable def cRE2126:Ctx:=cRE2125.addLoop 39 6 qdI.toT.toLoop
theorem cRE2126_good:Av.Good cRE2126:=cRE2125_good.loopN qdI 4 8 (by kernel_rfl) (fun _ _=>rfl) (fun x y s m K=>by kernel_rfl) (fun x y s s' K e=>by kernel_rfl)
noncomputable def cRE2127:Ctx:=cRE2126.addPlain 39 (plainT qfY qf5 qhQ qdg)
theorem cRE2127_good:Av.Good cRE2127:=cRE2126_good.fnP qhQ qjH qf5 qdg 4 8 (by kernel_rfl) (fun x=>by kernel_rfl) ql7
noncomputable def cRE2128:Ctx:=cRE2127.addOwn 46
theorem cRE2128_good:Av.Good cRE2128:=cRE2127_good.addOwn 46
noncomputable def cRE2129:Ctx:=cRE2128.addLoop 20 3 qe8.toT.toLoop
theorem cRE2129_good:Av.Good cRE2129:=cRE2128_good.loopN qe8 4 8 (by kernel_rfl) (fun _ _=>rfl) (fun x y s m K=>by kernel_rfl) (fun x y s s' K e=>by kernel_rfl)
noncomputable def cRE2130:Ctx:=cRE2129.addLoop 47 4 qcF.toT.toLoop
theorem cRE2130_good:Av.Good cRE2130:=cRE2129_good.loopN qcF 3 8 (by kernel_rfl) (fun _ _=>rfl) (fun x y s m K=>by kernel_rfl) (fun x y s s' K e=>by kernel_rfl)
noncomputable def cRE2131:Ctx:=cRE2130.addPlain 47 (plainT qc0 qbg qdV qE)
theorem cRE2131_good:Av.Good cRE2131:=cRE2130_good.fnP qdV qb6 qbg qE 4 8 (by kernel_rfl) (fun x=>by kernel_rfl) qkQ
noncomputable def cRE2132:Ctx:=cRE2131.addPlain 18 (plainT qdA qgH qeI qgB)
theorem cRE2132_good:Av.Good cRE2132:=cRE2131_good.fnP qeI qeW qgH qgB 3 8 (by kernel_rfl) (fun x=>by kernel_rfl) qk6
noncomputable def cRE2133:Ctx:=cRE2132.addPlain 20 (plainT qc5 qfJ qdZ qfG)
theorem cRE2133_good:Av.Good cRE2133:=cRE2132_good.fnP qdZ qd0 qfJ qfG 4 8 (by kernel_rfl) (fun x=>by kernel_rfl) qkK
noncomputable def cRE2134:Ctx:=cRE2133.addLoop 58 3 qhg.toT.toLoop
theorem cRE2134_good:Av.Good cRE2134:=cRE2133_good.loopN qhg 3 8 (by kernel_rfl) (fun _ _=>rfl) (fun x y s m K=>by kernel_rfl) (fun x y s s' K e=>by kernel_rfl)
noncomputable def cRE2135:Ctx:=cRE2134.addPlain 58 (plainT qjs qh2 qkn qkl)
theorem cRE2135_good:Av.Good cRE2135:=cRE2134_good.fnP qkn qk9 qh2 qkl 3 8 (by kernel_rfl) (fun x=>by kernel_rfl) qmV
noncomputable def cRE2136:Ctx:=cRE2135.addPlain 25 (plainT qdz qgR qeQ qcO)
theorem cRE2136_good:Av.Good cRE2136:=cRE2135_good.fnP qeQ qeY qgR qcO 3 8 (by kernel_rfl) (fun x=>by kernel_rfl) qk7
noncomputable def cRE2137:Ctx:=cRE2136.addPlain 30 (plainT qc1 qfO qdU qN)
theorem cRE2137_good:Av.Good cRE2137:=cRE2136_good.fnP qdU qdX qfO qN 3 8 (by kernel_rfl) (fun x=>by kernel_rfl) qkF
noncomputable def cRE2138:Ctx:=cRE2137.addLoop 57 3 qcQ.toT.toLoop
theorem cRE2138_good:Av.Good cRE2138:=cRE2137_good.loopN qcQ 3 8 (by kernel_rfl) (fun _ _=>rfl) (fun x y s m K=>by kernel_rfl) (fun x y s s' K e=>by kernel_rfl)
noncomputable def cRE2139:Ctx:=cRE2138.addPlain 57 (plainT qdl qbF qer qG)
theorem cRE2139_good:Av.Good cRE2139:=cRE2138_good.fnP qer qcp qbF qG 3 8 (by kernel_rfl) (fun x=>by kernel_rfl) qkT
noncomputable def cRE2140:Ctx:=cRE2139.addLoop 28 3 qcI.toT.toLoop
theorem cRE2140_good:Av.Good cRE2140:=cRE2139_good.loopN qcI 3 8 (by kernel_rfl) (fun _ _=>rfl) (fun x y s m K=>by kernel_rfl) (fun x y s s' K e=>by kernel_rfl)
noncomputable def cRE2141:Ctx:=cRE2140.addPlain 28 (plainT qcZ qb7 qd2 q9)
theorem cRE2141_good:Av.Good cRE2141:=cRE2140_good.fnP qd2 qca qb7 q9 3 8 (by kernel_rfl) (fun x=>by kernel_rfl) qkH
noncomputable def cRE2142:Ctx:=cRE2141.addLoop 56 4 qbC.toT.toLoop
theorem cRE2142_good:Av.Good cRE2142:=cRE2141_good.loopN qbC 4 8 (by kernel_rfl) (fun _ _=>rfl) (fun x y s m K=>by kernel_rfl) (fun x y s s' K e=>by kernel_rfl)
noncomputable def cRE2143:Ctx:=cRE2142.addPlain 27 (plainT qdb qb8 qdW qq)
theorem cRE2143_good:Av.Good cRE2143:=cRE2142_good.fnP qdW qcb qb8 qq 4 8 (by kernel_rfl) (fun x=>by kernel_rfl) qkG
noncomputable def cRE2:Ctx:=cRE2143
theorem cRE2_good:Av.Good cRE2:=cRE2143_good
end Go.Proofs.YtealbjacocgjcaaGreat
end
section
namespace Go.Av
open Go
structure CLoop (E:Env) (p:Nat) (img n:Int):Prop where
 i0:E.P[p]?=some (.op (insI 3 1 0 0 0 0 0))
 i1:E.P[p+1]?=some (.op (insI 3 2 0 0 0 (lo false n) 0))
 i2:E.P[p+2]?=some (.op (insI 4 2 0 0 0 (hi false n) 0))
 i3:E.P[p+3]?=some (.op (insI 23 0 1 2 0 0 0))
 i4:E.P[p+4]?=some (.br 25 2 (p+19))
 i5:E.P[p+5]?=some (.op (insI 3 3 0 0 0 (lo false img) 0))
 i6:E.P[p+6]?=some (.op (insI 14 4 1 3 0 0 0))
 i7:E.P[p+7]?=some (.op (insI 3 5 0 0 0 0 0))
 i8:E.P[p+8]?=some (.op (insI 4 5 0 0 0 (hi false 537133056) 0))
 i9:E.P[p+9]?=some (.op (insI 18 5 4 0 16 0 0))
 i10:E.P[p+10]?=some (.op (insI 3 6 0 0 0 0 0))
 i11:E.P[p+11]?=some (.op (insI 4 6 0 0 0 (hi false 537001984) 0))
 i12:E.P[p+12]?=some (.op (insI 18 6 1 0 16 0 0))
 i13:E.P[p+13]?=some (.op (insI 19 0 5 0 0 0 0))
 i14:E.P[p+14]?=some (.op (insI 20 0 6 0 0 0 0))
 i15:E.P[p+15]?=some (.op (insI 3 3 0 0 0 4 0))
 i16:E.P[p+16]?=some (.op (insI 14 4 1 3 0 0 0))
 i17:E.P[p+17]?=some (.op (insI 5 1 0 4 0 0 0))
 i18:E.P[p+18]?=some (.br 24 0 (p+1))
 hb:p+19<E.h
structure VLoop (E:Env) (p:Nat) (img n:Int):Prop where
 i0:E.P[p]?=some (.op (insI 3 1 0 0 0 0 0))
 i1:E.P[p+1]?=some (.op (insI 3 2 0 0 0 (lo false n) 0))
 i2:E.P[p+2]?=some (.op (insI 4 2 0 0 0 (hi false n) 0))
 i3:E.P[p+3]?=some (.op (insI 23 0 1 2 0 0 0))
 i4:E.P[p+4]?=some (.br 25 2 (p+27))
 i5:E.P[p+5]?=some (.op (insI 3 3 0 0 0 (lo false img) 0))
 i6:E.P[p+6]?=some (.op (insI 14 4 1 3 0 0 0))
 i7:E.P[p+7]?=some (.op (insI 3 5 0 0 0 0 0))
 i8:E.P[p+8]?=some (.op (insI 4 5 0 0 0 (hi false 537133056) 0))
 i9:E.P[p+9]?=some (.op (insI 18 5 4 0 16 0 0))
 i10:E.P[p+10]?=some (.op (insI 3 7 0 0 0 0 0))
 i11:E.P[p+11]?=some (.op (insI 4 7 0 0 0 (hi false 537395200) 0))
 i12:E.P[p+12]?=some (.op (insI 18 7 4 0 16 0 0))
 i13:E.P[p+13]?=some (.op (insI 3 6 0 0 0 0 0))
 i14:E.P[p+14]?=some (.op (insI 4 6 0 0 0 (hi false 537001984) 0))
 i15:E.P[p+15]?=some (.op (insI 18 6 1 0 16 0 0))
 i16:E.P[p+16]?=some (.op (insI 19 0 6 0 0 0 0))
 i17:E.P[p+17]?=some (.op (insI 19 2 5 0 0 0 0))
 i18:E.P[p+18]?=some (.op (insI 23 0 0 2 0 0 0))
 i19:E.P[p+19]?=some (.br 25 1 E.h)
 i20:E.P[p+20]?=some (.op (insI 19 2 7 0 0 0 0))
 i21:E.P[p+21]?=some (.op (insI 23 0 0 2 0 0 0))
 i22:E.P[p+22]?=some (.br 25 1 E.h)
 i23:E.P[p+23]?=some (.op (insI 3 3 0 0 0 4 0))
 i24:E.P[p+24]?=some (.op (insI 14 4 1 3 0 0 0))
 i25:E.P[p+25]?=some (.op (insI 5 1 0 4 0 0 0))
 i26:E.P[p+26]?=some (.br 24 0 (p+1))
 hb:p+27<E.h
theorem run_listL {E:Env} {j:Nat} {s s':IS} (l:List tIns.den) (hP:∀i,i<l.length→E.P[j+i]?=(l[i]?).map .op) (hh:j+l.length≤E.h) (h:execL E l s=some s'):GoTo E l.length 0 j s (j+l.length) s' :=
 execL_go l j s s' hP (fun i hi=>by omega) h
theorem two_at {E:Env} {j:Nat} {a b:tIns.den} (h0:E.P[j]?=some (.op a)) (h1:E.P[j+1]?=some (.op b)):∀i,i < [a,b].length→E.P[j+i]?=([a,b][i]?).map .op:=by
 intro i hi
 have hi:i<2:=hi
 have:i=0∨i=1:=by omega
 rcases this with rfl |rfl
 ·exact h0
 ·exact h1
theorem sum_exec (E:Env) (img:Int) (s:IS) (hi:wn img<65536) (h:s.1 1<65536):∃ρ',execL E [insI 3 3 0 0 0 (lo false img) 0,insI 14 4 1 3 0 0 0] s=some (ρ',s.2)∧ρ' 4=s.1 1+wn img∧∀k,k≠3→k≠4→ρ' k=s.1 k:=by
 have hl:wn (lo false img)=wn img:=by rw[lo_val];exact Nat.mod_eq_of_lt hi
 refine⟨updR (updR s.1 3 (wn img)) 4 (s.1 1+wn img),?_,updR_same _ _ _,fun k h3 h4=>by rw[updR_other _ _ h4,updR_other _ _ h3]⟩
 rw[execL_cons (x_movw E 3 (lo false img) s),hl]
 have g1:(updR s.1 3 (wn img)) 1=s.1 1:=updR_other _ _ (by decide)
 have g2:(updR s.1 3 (wn img)) 3=wn img:=updR_same _ _ _
 have e1:=x_add E 4 1 3 (updR s.1 3 (wn img),s.2) (by
  show(updR s.1 3 (wn img)) 1+(updR s.1 3 (wn img)) 3<_
  rw[g1,g2]
  omega)
 rw[show((updR s.1 3 (wn img),s.2):IS).1=updR s.1 3 (wn img) from rfl,g1,g2] at e1
 rw[execL_cons e1]
 rfl
section
variable {E:Env} {p:Nat} {img n:Int}
theorem cl_exit (h:CLoop E p img n) (s:IS) (hv:wn n≤s.1 1):∃s',GoTo E 4 0 (p+1) s (p+19) s'∧s'.2.2=s.2.2:=by
 obtain⟨ρ1,e1,_⟩:=head_exec E n s
 have hb:=h.hb
 have g1:=run_listL [insI 3 2 0 0 0 (lo false n) 0,insI 4 2 0 0 0 (hi false n) 0,insI 23 0 1 2 0 0 0] (three_at h.i1 h.i2 h.i3) (by show p+1+3≤_;omega) e1
 have g2:GoTo E 1 0 (p+4) (ρ1,cmpF (s.1 1) (wn n),s.2.2) (p+19) (ρ1,cmpF (s.1 1) (wn n),s.2.2):=by
  refine go_cons ?_ (by omega) (GoTo.refl _ _ _)
  rw[step_br h.i4]
  show(bif goesF (cmpF (s.1 1) (wn n)) 25 2 then _ else _)=_
  rw[goes_csF,decide_eq_true hv]
  rfl
 exact⟨_,g1.trans g2,rfl⟩
theorem cl_turn (h:CLoop E p img n) (s:IS) (hv:s.1 1<wn n) (hn:wn n+wn img≤65536) :
  (E.okR (537133056+(s.1 1+wn img))=true→E.okW (537001984+s.1 1)=true→∃s',GoTo E 18 0 (p+1) s (p+1) s'∧s'.1 1=s.1 1+4∧s'.2.2=updW s.2.2 (537001984+s.1 1) (s.2.2 (537133056+(s.1 1+wn img)))) ∧
  (E.okR (537133056+(s.1 1+wn img))=false∨E.okW (537001984+s.1 1)=false→∃k s',k≤14∧GoTo E k 0 (p+1) s E.h s'):=by
 have hh:=h.hb
 obtain⟨ρ1,e1,k1⟩:=head_exec E n s
 have g1:=run_listL [insI 3 2 0 0 0 (lo false n) 0,insI 4 2 0 0 0 (hi false n) 0,insI 23 0 1 2 0 0 0] (three_at h.i1 h.i2 h.i3) (by show p+1+3≤_;omega) e1
 have g2:GoTo E 1 0 (p+4) (ρ1,cmpF (s.1 1) (wn n),s.2.2) (p+5) (ρ1,cmpF (s.1 1) (wn n),s.2.2):=by
  refine go_cons ?_ (by omega) (GoTo.refl _ _ _)
  rw[step_br h.i4]
  show(bif goesF (cmpF (s.1 1) (wn n)) 25 2 then _ else _)=_
  rw[goes_csF,decide_eq_false (by omega)]
  rfl
 have v1:ρ1 1=s.1 1:=k1 1 (by decide)
 generalize cmpF (s.1 1) (wn n)=F at g1 g2
 obtain⟨ρ2,e2,w2,k2⟩:=sum_exec E img (ρ1,F,s.2.2) (by omega) (by show ρ1 1<_;omega)
 have w2:ρ2 4=ρ1 1+wn img:=w2
 have g3:=run_listL (j:=p+5) [insI 3 3 0 0 0 (lo false img) 0,insI 14 4 1 3 0 0 0] (two_at h.i5 h.i6) (by show p+5+2≤_;omega) e2
 obtain⟨ρ3,e3,w3,k3⟩:=addr_exec E 5 4 537133056 (ρ2,F,s.2.2) (by decide) (by show ρ2 4<_;omega) (by decide)
 have w3:ρ3 5=wn 537133056+ρ2 4:=w3
 have g4:=run_listL (j:=p+7) [insI 3 5 0 0 0 0 0,insI 4 5 0 0 0 (hi false 537133056) 0,insI 18 5 4 0 16 0 0] (three_at h.i7 h.i8 h.i9) (by show p+7+3≤_;omega) e3
 have r31:ρ3 1=s.1 1:=by
  rw[k3 1 (by decide)]
  show ρ2 1=_
  rw[k2 1 (by decide) (by decide)]
  exact v1
 obtain⟨ρ4,e4,w4,k4⟩:=addr_exec E 6 1 537001984 (ρ3,F,s.2.2) (by decide) (by show ρ3 1<_;omega) (by decide)
 have w4:ρ4 6=wn 537001984+ρ3 1:=w4
 have g5:=run_listL (j:=p+10) [insI 3 6 0 0 0 0 0,insI 4 6 0 0 0 (hi false 537001984) 0,insI 18 6 1 0 16 0 0] (three_at h.i10 h.i11 h.i12) (by show p+10+3≤_;omega) e4
 have r45:ρ4 5=537133056+(s.1 1+wn img):=by
  rw[k4 5 (by decide)]
  show ρ3 5=_
  rw[w3,w2,v1]
  rfl
 have r46:ρ4 6=537001984+s.1 1:=by rw[w4,r31];rfl
 have r41:ρ4 1=s.1 1:=by
  rw[k4 1 (by decide)]
  exact r31
 have g:=(((g1.trans g2).trans g3).trans g4).trans g5
 have ld:E.okR (537133056+(s.1 1+wn img))=true→GoTo E 1 0 (p+13) (ρ4,F,s.2.2) (p+14) (updR ρ4 0 (s.2.2 (537133056+(s.1 1+wn img))),F,s.2.2):=fun hw=>by
  refine go_cons ?_ (by omega) (GoTo.refl _ _ _)
  rw[step_op h.i13,do_ldr]
  show(bif E.okR (ρ4 5) then(false,p+13+1,updR ρ4 0 (s.2.2 (ρ4 5)),F,s.2.2) else _)=_
  rw[r45,hw]
  rfl
 have q6:∀x:Nat,(updR ρ4 0 x) 6=537001984+s.1 1:=fun x=>(updR_other _ _ (by decide)).trans r46
 have q0:∀x:Nat,(updR ρ4 0 x) 0=x:=fun x=>updR_same _ _ _
 constructor
 ·intro hr hw
  have g6:=ld hr
  generalize s.2.2 (537133056+(s.1 1+wn img))=x at *
  have g7:GoTo E 1 0 (p+14) (updR ρ4 0 x,F,s.2.2) (p+15) (updR ρ4 0 x,F,updW s.2.2 (537001984+s.1 1) x):=by
   refine go_cons ?_ (by omega) (GoTo.refl _ _ _)
   rw[step_op h.i14,do_str]
   show(bif E.okW ((updR ρ4 0 x) 6) then(false,p+14+1,updR ρ4 0 x,F,updW s.2.2 ((updR ρ4 0 x) 6) ((updR ρ4 0 x) 0)) else _)=_
   rw[q6,hw,q0]
   rfl
  have r51:(updR ρ4 0 x) 1=s.1 1:=(updR_other _ _ (by decide)).trans r41
  obtain⟨ρ5,e5,w5⟩:=next_exec E (updR ρ4 0 x,F,updW s.2.2 (537001984+s.1 1) x) (by show(updR ρ4 0 x) 1<_;rw[r51];omega)
  have g8:=run_listL (j:=p+15) [insI 3 3 0 0 0 4 0,insI 14 4 1 3 0 0 0,insI 5 1 0 4 0 0 0] (three_at h.i15 h.i16 h.i17) (by show p+15+3≤_;omega) e5
  have g9:GoTo E 1 0 (p+18) (ρ5,F,updW s.2.2 (537001984+s.1 1) x) (p+1) (ρ5,F,updW s.2.2 (537001984+s.1 1) x):=go_cons (step_b h.i18 _) (by omega) (GoTo.refl _ _ _)
  exact⟨_,(((g.trans g6).trans g7).trans g8).trans g9,by
   show ρ5 1=_
   rw[w5]
   show(updR ρ4 0 x) 1+4=_
   rw[r51],rfl⟩
 ·intro hor
  cases hr:E.okR (537133056+(s.1 1+wn img))
  ·have g6:GoTo E 1 0 (p+13) (ρ4,F,s.2.2) E.h (ρ4,F,s.2.2):=by
    refine go_cons ?_ (by omega) (GoTo.refl _ _ _)
    rw[step_op h.i13,do_ldr]
    show(bif E.okR (ρ4 5) then _ else(false,E.h,ρ4,F,s.2.2))=_
    rw[r45,hr]
    rfl
   exact⟨13,_,by omega,g.trans g6⟩
  ·have hw:E.okW (537001984+s.1 1)=false:=by
    rcases hor with h' |h'
    ·rw[hr] at h';cases h'
    ·exact h'
   have g6:=ld hr
   generalize s.2.2 (537133056+(s.1 1+wn img))=x at *
   have g7:GoTo E 1 0 (p+14) (updR ρ4 0 x,F,s.2.2) E.h (updR ρ4 0 x,F,s.2.2):=by
    refine go_cons ?_ (by omega) (GoTo.refl _ _ _)
    rw[step_op h.i14,do_str]
    show(bif E.okW ((updR ρ4 0 x) 6) then _ else(false,E.h,updR ρ4 0 x,F,s.2.2))=_
    rw[q6,hw]
    rfl
   exact⟨14,_,by omega,(g.trans g6).trans g7⟩
def SameOut (W W':Nat→Nat):Prop:=∀a,a<537001984∨537067520≤a→W' a=W a
theorem cl_all (h:CLoop E p img n) {I M:Nat} (hI:wn img=I) (hM:wn n=4*M) (hn:4*M+I≤65536) (hok:∀t,t<M→E.okW (537001984+4*t)=true∧E.okR (537133056+(4*t+I))=true):∀(d i:Nat) (s:IS),i+d=M→s.1 1=4*i →
  ∃s',GoTo E (18*d+4) 0 (p+1) s (p+19) s'∧(∀t,i≤t→t<M→s'.2.2 (537001984+4*t)=s.2.2 (537133056+(4*t+I)))∧∀a,(∀t,i≤t→t<M→a≠537001984+4*t)→s'.2.2 a=s.2.2 a
 |0,i,s,hd,hi=>by
  obtain⟨s',g,e⟩:=cl_exit h s (by omega)
  exact⟨s',g,fun t h1 h2=>by omega,fun a _=>by rw[e]⟩
 |d+1,i,s,hd,hi=>by
  obtain⟨t1,_⟩:=cl_turn h s (by omega) (by omega)
  rw[hi,hI] at t1
  obtain⟨o1,o2⟩:=hok i (by omega)
  obtain⟨s1,g1,v1,w1⟩:=t1 o2 o1
  obtain⟨s2,g2,z2,k2⟩:=cl_all h hI hM hn hok d (i+1) s1 (by omega) (by omega)
  refine⟨s2,?_,fun t h1 h2=>?_,fun a ha=>?_⟩
  ·have:=g1.trans g2
   rw[show 18+(18*d+4)=18*(d+1)+4 by omega] at this
   exact this
  ·rcases Nat.lt_or_ge i t with h3 |h3
   ·rw[z2 t h3 h2,w1,updW_other _ _ (by omega)]
   ·have:t=i:=by omega
    subst this
    rw[k2 _ (fun t' h4 _=>by omega),w1,updW_same]
  ·rw[k2 a (fun t h4 h5=>ha t (by omega) h5),w1,updW_other _ _ (ha i (Nat.le_refl _) (by omega))]
end
end Go.Av
end
section
namespace Go.Av
open Go
theorem look_at {E:Env} {j:Nat} {a:Int} (i0:E.P[j]?=some (.op (insI 19 2 a 0 0 0 0))) (i1:E.P[j+1]?=some (.op (insI 23 0 0 2 0 0 0))) (i2:E.P[j+2]?=some (.br 25 1 E.h)) (hb:j+2<E.h)
  (ρ:Int→Nat) (F:Flg) (W:Nat→Nat) (x ad:Nat) (h0:ρ 0=x) (ha:ρ a=ad) :
  (E.okR ad=true→x=W ad→∃F',GoTo E 3 0 j (ρ,F,W) (j+3) (updR ρ 2 (W ad),F',W)) ∧
  (E.okR ad=false∨x≠W ad→∃k s',k≤3∧GoTo E k 0 j (ρ,F,W) E.h s'∧s'.2.2=W):=by
 have ld:E.okR ad=true→GoTo E 2 0 j (ρ,F,W) (j+2) (updR ρ 2 (W ad),cmpF x (W ad),W):=fun hr=>by
  refine go_cons (s1:=(updR ρ 2 (W ad),F,W)) (j1:=j+1) ?_ (by omega) (go_cons (s1:=(updR ρ 2 (W ad),cmpF x (W ad),W)) (j1:=j+2) ?_ (by omega) (GoTo.refl _ _ _))
  ·rw[step_op i0,do_ldr]
   show(bif E.okR (ρ a) then(false,j+1,updR ρ 2 (W (ρ a)),F,W) else _)=_
   rw[ha,hr]
   rfl
  ·rw[step_op i1,do_cmp]
   have e0:(updR ρ 2 (W ad)) 0=x:=(updR_other _ _ (by decide)).trans h0
   have e2:(updR ρ 2 (W ad)) 2=W ad:=updR_same _ _ _
   show(false,j+1+1,updR ρ 2 (W ad),cmpF ((updR ρ 2 (W ad)) 0) ((updR ρ 2 (W ad)) 2),W)=_
   rw[e0,e2]
 have br:∀ρ' F' W',stepI E false (j+2) (ρ',F',W')=bif goesF F' 25 1 then(false,E.h,ρ',F',W') else(false,j+2+1,ρ',F',W'):=fun ρ' F' W'=>step_br i2 _
 constructor
 ·intro hr hx
  refine⟨cmpF x (W ad),(ld hr).trans (go_cons ?_ (by omega) (GoTo.refl _ _ _))⟩
  rw[br,goes_neF,show(x != W ad)=false by simp[hx]]
  rfl
 ·intro hor
  cases hr:E.okR ad
  ·refine⟨1,(ρ,F,W),by omega,go_cons ?_ (by omega) (GoTo.refl _ _ _),rfl⟩
   rw[step_op i0,do_ldr]
   show(bif E.okR (ρ a) then _ else(false,E.h,ρ,F,W))=_
   rw[ha,hr]
   rfl
  ·have hx:x≠W ad:=by
    rcases hor with h' |h'
    ·rw[hr] at h';cases h'
    ·exact h'
   refine⟨3,(updR ρ 2 (W ad),cmpF x (W ad),W),by omega,(ld hr).trans (go_cons ?_ (by omega) (GoTo.refl _ _ _)),rfl⟩
   rw[br,goes_neF,show(x != W ad)=true by simp[hx]]
   rfl
section
variable {E:Env} {p:Nat} {img n:Int}
theorem vl_exit (h:VLoop E p img n) (s:IS) (hv:wn n≤s.1 1):∃s',GoTo E 4 0 (p+1) s (p+27) s'∧s'.2.2=s.2.2:=by
 obtain⟨ρ1,e1,_⟩:=head_exec E n s
 have hb:=h.hb
 have g1:=run_listL [insI 3 2 0 0 0 (lo false n) 0,insI 4 2 0 0 0 (hi false n) 0,insI 23 0 1 2 0 0 0] (three_at h.i1 h.i2 h.i3) (by show p+1+3≤_;omega) e1
 have g2:GoTo E 1 0 (p+4) (ρ1,cmpF (s.1 1) (wn n),s.2.2) (p+27) (ρ1,cmpF (s.1 1) (wn n),s.2.2):=by
  refine go_cons ?_ (by omega) (GoTo.refl _ _ _)
  rw[step_br h.i4]
  show(bif goesF (cmpF (s.1 1) (wn n)) 25 2 then _ else _)=_
  rw[goes_csF,decide_eq_true hv]
  rfl
 exact⟨_,g1.trans g2,rfl⟩
theorem vl_turn (h:VLoop E p img n) (s:IS) (hv:s.1 1<wn n) (hn:wn n+wn img≤65536) :
  ((E.okR (537001984+s.1 1)=true∧(E.okR (537133056+(s.1 1+wn img))=true∧s.2.2 (537001984+s.1 1)=s.2.2 (537133056+(s.1 1+wn img)))∧E.okR (537395200+(s.1 1+wn img))=true∧s.2.2 (537001984+s.1 1)=s.2.2 (537395200+(s.1 1+wn img))) →
   ∃s',GoTo E 26 0 (p+1) s (p+1) s'∧s'.1 1=s.1 1+4∧s'.2.2=s.2.2) ∧
  (¬(E.okR (537001984+s.1 1)=true∧(E.okR (537133056+(s.1 1+wn img))=true∧s.2.2 (537001984+s.1 1)=s.2.2 (537133056+(s.1 1+wn img)))∧E.okR (537395200+(s.1 1+wn img))=true∧s.2.2 (537001984+s.1 1)=s.2.2 (537395200+(s.1 1+wn img))) →
   ∃k s',k≤22∧GoTo E k 0 (p+1) s E.h s'∧s'.2.2=s.2.2):=by
 have hh:=h.hb
 obtain⟨ρ1,e1,k1⟩:=head_exec E n s
 have g1:=run_listL [insI 3 2 0 0 0 (lo false n) 0,insI 4 2 0 0 0 (hi false n) 0,insI 23 0 1 2 0 0 0] (three_at h.i1 h.i2 h.i3) (by show p+1+3≤_;omega) e1
 have g2:GoTo E 1 0 (p+4) (ρ1,cmpF (s.1 1) (wn n),s.2.2) (p+5) (ρ1,cmpF (s.1 1) (wn n),s.2.2):=by
  refine go_cons ?_ (by omega) (GoTo.refl _ _ _)
  rw[step_br h.i4]
  show(bif goesF (cmpF (s.1 1) (wn n)) 25 2 then _ else _)=_
  rw[goes_csF,decide_eq_false (by omega)]
  rfl
 have v1:ρ1 1=s.1 1:=k1 1 (by decide)
 generalize cmpF (s.1 1) (wn n)=F at g1 g2
 obtain⟨ρ2,e2,w2,k2⟩:=sum_exec E img (ρ1,F,s.2.2) (by omega) (by show ρ1 1<_;omega)
 have w2:ρ2 4=ρ1 1+wn img:=w2
 have g3:=run_listL (j:=p+5) [insI 3 3 0 0 0 (lo false img) 0,insI 14 4 1 3 0 0 0] (two_at h.i5 h.i6) (by show p+5+2≤_;omega) e2
 obtain⟨ρ3,e3,w3,k3⟩:=addr_exec E 5 4 537133056 (ρ2,F,s.2.2) (by decide) (by show ρ2 4<_;omega) (by decide)
 have w3:ρ3 5=wn 537133056+ρ2 4:=w3
 have g4:=run_listL (j:=p+7) [insI 3 5 0 0 0 0 0,insI 4 5 0 0 0 (hi false 537133056) 0,insI 18 5 4 0 16 0 0] (three_at h.i7 h.i8 h.i9) (by show p+7+3≤_;omega) e3
 have r34:ρ3 4=s.1 1+wn img:=by
  rw[k3 4 (by decide)]
  show ρ2 4=_
  rw[w2,v1]
 obtain⟨ρ4,e4,w4,k4⟩:=addr_exec E 7 4 537395200 (ρ3,F,s.2.2) (by decide) (by show ρ3 4<_;omega) (by decide)
 have w4:ρ4 7=wn 537395200+ρ3 4:=w4
 have g5:=run_listL (j:=p+10) [insI 3 7 0 0 0 0 0,insI 4 7 0 0 0 (hi false 537395200) 0,insI 18 7 4 0 16 0 0] (three_at h.i10 h.i11 h.i12) (by show p+10+3≤_;omega) e4
 have r41:ρ4 1=s.1 1:=by
  rw[k4 1 (by decide)]
  show ρ3 1=_
  rw[k3 1 (by decide)]
  show ρ2 1=_
  rw[k2 1 (by decide) (by decide)]
  exact v1
 obtain⟨ρ5,e5,w5,k5⟩:=addr_exec E 6 1 537001984 (ρ4,F,s.2.2) (by decide) (by show ρ4 1<_;omega) (by decide)
 have w5:ρ5 6=wn 537001984+ρ4 1:=w5
 have g6:=run_listL (j:=p+13) [insI 3 6 0 0 0 0 0,insI 4 6 0 0 0 (hi false 537001984) 0,insI 18 6 1 0 16 0 0] (three_at h.i13 h.i14 h.i15) (by show p+13+3≤_;omega) e5
 have r56:ρ5 6=537001984+s.1 1:=by rw[w5,r41];rfl
 have r55:ρ5 5=537133056+(s.1 1+wn img):=by
  rw[k5 5 (by decide)]
  show ρ4 5=_
  rw[k4 5 (by decide)]
  show ρ3 5=_
  rw[w3,w2,v1]
  rfl
 have r57:ρ5 7=537395200+(s.1 1+wn img):=by
  rw[k5 7 (by decide)]
  show ρ4 7=_
  rw[w4,r34]
  rfl
 have r51:ρ5 1=s.1 1:=by
  rw[k5 1 (by decide)]
  exact r41
 have g:=((((g1.trans g2).trans g3).trans g4).trans g5).trans g6
 generalize 537133056+(s.1 1+wn img)=A at *
 generalize 537395200+(s.1 1+wn img)=B at *
 obtain⟨x,hx⟩:∃x,x=s.2.2 (537001984+s.1 1):=⟨_,rfl⟩
 have ld:E.okR (537001984+s.1 1)=true→GoTo E 1 0 (p+16) (ρ5,F,s.2.2) (p+17) (updR ρ5 0 x,F,s.2.2):=fun hw=>by
  refine go_cons ?_ (by omega) (GoTo.refl _ _ _)
  rw[step_op h.i16,do_ldr]
  show(bif E.okR (ρ5 6) then(false,p+16+1,updR ρ5 0 (s.2.2 (ρ5 6)),F,s.2.2) else _)=_
  rw[r56,hw,←hx]
  rfl
 have a0:(updR ρ5 0 x) 0=x:=updR_same _ _ _
 have a5:(updR ρ5 0 x) 5=A:=(updR_other _ _ (by decide)).trans r55
 have a7:(updR ρ5 0 x) 7=B:=(updR_other _ _ (by decide)).trans r57
 have a1:(updR ρ5 0 x) 1=s.1 1:=(updR_other _ _ (by decide)).trans r51
 generalize updR ρ5 0 x=ρ6 at *
 obtain⟨c1,c2⟩:=look_at h.i17 h.i18 h.i19 (by omega) ρ6 F s.2.2 x A a0 a5
 have b0:(updR ρ6 2 (s.2.2 A)) 0=x:=(updR_other _ _ (by decide)).trans a0
 have b7:(updR ρ6 2 (s.2.2 A)) 7=B:=(updR_other _ _ (by decide)).trans a7
 have b1:(updR ρ6 2 (s.2.2 A)) 1=s.1 1:=(updR_other _ _ (by decide)).trans a1
 generalize updR ρ6 2 (s.2.2 A)=ρ7 at *
 rw[←hx]
 constructor
 ·rintro⟨ho,⟨ha,xa⟩,hb,xb⟩
  obtain⟨F1,g7⟩:=c1 ha xa
  obtain⟨d1,_⟩:=look_at h.i20 h.i21 h.i22 (by omega) ρ7 F1 s.2.2 x B b0 b7
  obtain⟨F2,g8⟩:=d1 hb xb
  have f1:(updR ρ7 2 (s.2.2 B)) 1=s.1 1:=(updR_other _ _ (by decide)).trans b1
  obtain⟨ρ8,e8,w8⟩:=next_exec E (updR ρ7 2 (s.2.2 B),F2,s.2.2) (by show(updR ρ7 2 (s.2.2 B)) 1<_;rw[f1];omega)
  have g9:=run_listL (j:=p+23) [insI 3 3 0 0 0 4 0,insI 14 4 1 3 0 0 0,insI 5 1 0 4 0 0 0] (three_at h.i23 h.i24 h.i25) (by show p+23+3≤_;omega) e8
  have g10:GoTo E 1 0 (p+26) (ρ8,F2,s.2.2) (p+1) (ρ8,F2,s.2.2):=go_cons (step_b h.i26 _) (by omega) (GoTo.refl _ _ _)
  exact⟨_,(((((g.trans (ld ho)).trans g7).trans g8).trans g9).trans g10),by
   show ρ8 1=_
   rw[w8]
   show(updR ρ7 2 (s.2.2 B)) 1+4=_
   rw[f1],rfl⟩
 ·intro hno
  cases ho:E.okR (537001984+s.1 1)
  ·have g7:GoTo E 1 0 (p+16) (ρ5,F,s.2.2) E.h (ρ5,F,s.2.2):=by
    refine go_cons ?_ (by omega) (GoTo.refl _ _ _)
    rw[step_op h.i16,do_ldr]
    show(bif E.okR (ρ5 6) then _ else(false,E.h,ρ5,F,s.2.2))=_
    rw[r56,ho]
    rfl
   exact⟨16,_,by omega,g.trans g7,rfl⟩
  ·by_cases ha:E.okR A=true∧x=s.2.2 A
   ·obtain⟨F1,g7⟩:=c1 ha.1 ha.2
    obtain⟨_,d2⟩:=look_at h.i20 h.i21 h.i22 (by omega) ρ7 F1 s.2.2 x B b0 b7
    obtain⟨k,s',hk,g8,e⟩:=d2 (by
     cases hb:E.okR B
     ·exact .inl rfl
     ·exact .inr fun xb=>hno ⟨ho,ha,hb,xb⟩)
    exact⟨_,s',(by show 15+1+3+k≤22;omega),((g.trans (ld ho)).trans g7).trans g8,e⟩
   ·obtain⟨k,s',hk,g8,e⟩:=c2 (by
     cases hb:E.okR A
     ·exact .inl rfl
     ·exact .inr fun xb=>ha ⟨hb,xb⟩)
    exact⟨_,s',(by show 15+1+k≤22;omega),(g.trans (ld ho)).trans g8,e⟩
end
end Go.Av
end
section
namespace Go.Av
open Go
def EqT (I:Nat) (W:Nat→Nat) (t:Nat):Prop:=W (537001984+4*t)=W (537133056+(4*t+I))∧W (537001984+4*t)=W (537395200+(4*t+I))
section
variable {E:Env} {p:Nat} {img n:Int}
theorem vl_all (h:VLoop E p img n) {I M:Nat} (hI:wn img=I) (hM:wn n=4*M) (hn:4*M+I≤65536) (hok:∀t,t<M→E.okR (537001984+4*t)=true∧E.okR (537133056+(4*t+I))=true∧E.okR (537395200+(4*t+I))=true):∀(d i:Nat) (s:IS),i+d=M→s.1 1=4*i →
  ((∀t,i≤t→t<M→EqT I s.2.2 t)→∃s',GoTo E (26*d+4) 0 (p+1) s (p+27) s'∧s'.2.2=s.2.2) ∧
  ((∃t,i≤t∧t<M∧¬EqT I s.2.2 t)→∃k s',k≤26*d+4∧GoTo E k 0 (p+1) s E.h s'∧s'.2.2=s.2.2)
 |0,i,s,hd,hi=>by
  constructor
  ·intro _
   exact vl_exit h s (by omega)
  ·rintro⟨t,h1,h2,_⟩
   omega
 |d+1,i,s,hd,hi=>by
  obtain⟨t1,t2⟩:=vl_turn h s (by omega) (by omega)
  rw[hi,hI] at t1 t2
  obtain⟨o1,o2,o3⟩:=hok i (by omega)
  constructor
  ·intro hz
   obtain⟨e1,e2⟩:=hz i (Nat.le_refl _) (by omega)
   obtain⟨s1,g1,v1,w1⟩:=t1 ⟨o1,⟨o2,e1⟩,o3,e2⟩
   obtain⟨s2,g2,w2⟩:=(vl_all h hI hM hn hok d (i+1) s1 (by omega) (by omega)).1 (fun t h1 h2=>by rw[w1];exact hz t (by omega) h2)
   refine⟨s2,?_,by rw[w2,w1]⟩
   have:=g1.trans g2
   rw[show 26+(26*d+4)=26*(d+1)+4 by omega] at this
   exact this
  ·rintro⟨t,h1,h2,hne⟩
   by_cases he:EqT I s.2.2 i
   ·obtain⟨s1,g1,v1,w1⟩:=t1 ⟨o1,⟨o2,he.1⟩,o3,he.2⟩
    have hti:i≠t:=fun e=>hne (e▸he)
    obtain⟨k,s2,hk,g2,w2⟩:=(vl_all h hI hM hn hok d (i+1) s1 (by omega) (by omega)).2 ⟨t,by omega,h2,by rw[w1];exact hne⟩
    exact⟨26+k,s2,by omega,by simpa using g1.trans g2,by rw[w2,w1]⟩
   ·obtain⟨k,s',hk,g,e⟩:=t2 (fun hx=>he ⟨hx.2.1.2,hx.2.2.2⟩)
    exact⟨k,s',by omega,g,e⟩
end
end Go.Av
end
section
namespace Go.Av
open Go
def gateH (i o r:Nat) (b:Bool):List tItem.den:=gateL false b b (i:Int) (o:Int) 0 20++handH o r b
def gateE (i o r n:Nat) (b:Bool):Env:=localE (gateH i o r b) o r n
def gateQ (b:Bool):Nat:=bif b then 46 else 19
theorem gate_h (i o r n:Nat) (b:Bool):(gateE i o r n b).h=gateQ b+(bif b then 7 else 6):=by
 cases b
 ·kernel_rfl
 ·kernel_rfl
theorem gate_c (i o r n:Nat) (b:Bool):CLoop (gateE i o r n b) 0 i o:=by
 cases b
 ·exact⟨by kernel_rfl,by kernel_rfl,by kernel_rfl,by kernel_rfl,by kernel_rfl,by kernel_rfl,by kernel_rfl,by kernel_rfl,by kernel_rfl,by kernel_rfl,by kernel_rfl,by kernel_rfl,by kernel_rfl,by kernel_rfl,by kernel_rfl,by kernel_rfl,by kernel_rfl,by kernel_rfl,by kernel_rfl,by rw[gate_h];decide⟩
 ·exact⟨by kernel_rfl,by kernel_rfl,by kernel_rfl,by kernel_rfl,by kernel_rfl,by kernel_rfl,by kernel_rfl,by kernel_rfl,by kernel_rfl,by kernel_rfl,by kernel_rfl,by kernel_rfl,by kernel_rfl,by kernel_rfl,by kernel_rfl,by kernel_rfl,by kernel_rfl,by kernel_rfl,by kernel_rfl,by rw[gate_h];decide⟩
theorem gate_v (i o r n:Nat):VLoop (gateE i o r n true) 19 i o :=
 ⟨by kernel_rfl,by kernel_rfl,by kernel_rfl,by kernel_rfl,by kernel_rfl,by kernel_rfl,by kernel_rfl,by kernel_rfl,by kernel_rfl,by kernel_rfl,by kernel_rfl,by kernel_rfl,by kernel_rfl,by kernel_rfl,by kernel_rfl,by kernel_rfl,by kernel_rfl,by kernel_rfl,by kernel_rfl,by kernel_rfl,by kernel_rfl,by kernel_rfl,by kernel_rfl,by kernel_rfl,by kernel_rfl,by kernel_rfl,by kernel_rfl,by rw[gate_h];decide⟩
structure QEnd (E:Env) (q:Nat):Prop where
 e0:E.P[q]?=some (.op (insI 3 5 0 0 0 (lo false 537919488) 0))
 e1:E.P[q+1]?=some (.op (insI 4 5 0 0 0 (hi false 537919488) 0))
 e2:E.P[q+2]?=some (.op (insI 3 0 0 0 0 (lo false 3235799053) 0))
 e3:E.P[q+3]?=some (.op (insI 4 0 0 0 0 (hi false 3235799053) 0))
 e4:E.P[q+4]?=some (.op (insI 20 0 5 0 0 0 0))
 e5:E.P[q+5]?=some (.op (insI 2 0 0 0 0 0 0))
 hb:q+5<E.h
theorem gate_q (i o r n:Nat) (b:Bool):QEnd (gateE i o r n b) (gateQ b):=by
 cases b
 ·exact⟨by kernel_rfl,by kernel_rfl,by kernel_rfl,by kernel_rfl,by kernel_rfl,by kernel_rfl,by rw[gate_h];decide⟩
 ·exact⟨by kernel_rfl,by kernel_rfl,by kernel_rfl,by kernel_rfl,by kernel_rfl,by kernel_rfl,by rw[gate_h];decide⟩
theorem part_op {E E':Env} {m j:Nat} (hp:Part E E' m) {i:tIns.den} (h:E'.P[j]?=some (.op i)):E.P[m+j]?=some (.op i):=by
 rw[hp.prg,h]
 rfl
theorem part_br {E E':Env} {m j t:Nat} {o c:Int} (hp:Part E E' m) (h:E'.P[j]?=some (.br o c t)):E.P[m+j]?=some (.br o c (m+t)):=by
 rw[hp.prg,h]
 rfl
theorem part_w {E E':Env} {m p:Nat} {base n:Int} (hp:Part E E' m) (h:WLoop E' p base n):WLoop E (m+p) base n :=
 ⟨part_op hp h.i0,part_op hp h.i1,part_op hp h.i2,part_op hp h.i3,part_br (m:=m) (j:=p+4) hp h.i4,part_op hp h.i5,part_op hp h.i6,part_op hp h.i7,part_op hp h.i8,part_op hp h.i9,part_op hp h.i10,part_op hp h.i11,part_op hp h.i12,part_br (m:=m) (j:=p+13) hp h.i13,by have:=h.hb;rw[hp.h];omega⟩
theorem part_l {E E':Env} {m p:Nat} {base n:Int} (hp:Part E E' m) (h:LLoop E' p base n):LLoop E (m+p) base n :=
 ⟨part_op hp h.i0,part_op hp h.i1,part_op hp h.i2,part_op hp h.i3,part_br (m:=m) (j:=p+4) hp h.i4,part_op hp h.i5,part_op hp h.i6,part_op hp h.i7,part_op hp h.i8,part_op hp h.i9,part_op hp h.i10,by rw[hp.h];exact part_br hp h.i11,part_op hp h.i12,part_op hp h.i13,part_op hp h.i14,part_br (m:=m) (j:=p+15) hp h.i15,by have:=h.hb;rw[hp.h];omega⟩
theorem part_hand {E E':Env} {m mo mr:Nat} (hp:Part E E' m) (H:HandAt E' mo mr):HandAt E mo mr:=by
 have hh:=hp.h
 have ho:E.o=E'.o:=hp.o
 have hr:E.r=E'.r:=hp.r
 refine⟨by rw[hp.o];exact H.so,by rw[hp.r];exact H.sr,by rw[hp.o,hp.r,hp.n];exact H.sz,?_,?_,?_,?_,?_,?_,?_,?_,?_,?_,?_,?_,?_,?_,?_,?_,?_,?_,?_,?_,?_,?_⟩<;>rw[hh]
 ·exact part_op hp H.b0
 ·exact part_op hp H.b1
 ·exact part_op hp H.b2
 ·exact part_op hp H.b3
 ·rw[ho];exact part_w (m:=m) (p:=E'.h+4) hp H.w0
 ·rw[hr];exact part_w (m:=m) (p:=E'.h+18) hp H.w1
 ·rw[hr];exact part_w (m:=m) (p:=E'.h+32) hp H.w2
 ·rw[ho];exact part_l (m:=m) (p:=E'.h+46) hp H.l0
 ·rw[hr];exact part_l (m:=m) (p:=E'.h+62) hp H.l1
 ·rw[hr];exact part_l (m:=m) (p:=E'.h+78) hp H.l2
 ·exact part_op hp H.e0
 ·exact part_op hp H.e1
 ·exact part_op hp H.e2
 ·exact part_op hp H.e3
 ·exact part_op hp H.e4
 ·exact part_br (m:=m) (j:=E'.h+99) hp H.e5
 ·exact part_op hp H.e6
 ·exact part_op hp H.e7
 ·exact part_op hp H.e8
 ·exact part_op hp H.e9
 ·exact part_op hp H.e10
 ·exact part_op hp H.e11
theorem gate_drop (i o r n:Nat) (b:Bool):(gateE i o r n b).P.drop (gateQ b+(bif b then 7 else 6))=(handP o r b).map (shiftP (gateQ b+(bif b then 7 else 6))):=by
 cases b
 ·kernel_rfl
 ·kernel_rfl
theorem gate_part (i o r n:Nat) (b:Bool):Part (gateE i o r n b) (handE o r n b) (gateQ b+(bif b then 7 else 6)):=by
 refine⟨fun j=>?_,rfl,rfl,rfl,gate_h i o r n b⟩
 rw[←List.getElem?_drop,gate_drop,List.getElem?_map]
 rfl
theorem gate_hand (i mo mr n:Nat) (b:Bool) (hs:SzOk (4*mo) (4*mr) n):HandAt (gateE i (4*mo) (4*mr) n b) mo mr :=
 part_hand (gate_part i (4*mo) (4*mr) n b) (hand_at mo mr n b hs)
theorem first_stepL {E:Env} {p:Nat} (h0:E.P[p]?=some (.op (insI 3 1 0 0 0 0 0))) (hb:p≠E.h) (s:IS):GoTo E 1 0 p s (p+1) (updR s.1 1 0,s.2) :=
 go_cons (by rw[step_op h0];rfl) hb (GoTo.refl _ _ _)
theorem q_run {E:Env} {q:Nat} (Q:QEnd E q) (hw:E.okW 537919488=true) (s:IS):∃s',Ends E 6 0 q s (q+5) s'∧s'.2.2=updW s.2.2 537919488 3235799053:=by
 have hb:=Q.hb
 obtain⟨ρ1,e1,v1,_⟩:=word_at E 5 537919488 s
 obtain⟨ρ2,e2,v2,k2⟩:=word_at E 0 3235799053 (ρ1,s.2)
 have g1:=execL_go (j:=q) [insI 3 5 0 0 0 (lo false 537919488) 0,insI 4 5 0 0 0 (hi false 537919488) 0] _ _ (two_at Q.e0 Q.e1) (fun i hi=>by
  have hi:i<2:=hi
  omega) e1
 have g2:=execL_go (j:=q+2) [insI 3 0 0 0 0 (lo false 3235799053) 0,insI 4 0 0 0 0 (hi false 3235799053) 0] _ _ (two_at Q.e2 Q.e3) (fun i hi=>by
  have hi:i<2:=hi
  omega) e2
 have r5:ρ2 5=537919488:=(k2 5 (by decide)).trans v1
 have r0:ρ2 0=3235799053:=v2
 have g3:GoTo E 1 0 (q+4) (ρ2,s.2) (q+5) (ρ2,s.2.1,updW s.2.2 537919488 3235799053):=by
  refine go_cons ?_ (by omega) (GoTo.refl _ _ _)
  rw[step_op Q.e4,do_str]
  show(bif E.okW (ρ2 5) then(false,q+4+1,ρ2,s.2.1,updW s.2.2 (ρ2 5) (ρ2 0)) else _)=_
  rw[r5,hw,r0]
  rfl
 have g4:Ends E 1 0 (q+5) (ρ2,s.2.1,updW s.2.2 537919488 3235799053) (q+5) (ρ2,s.2.1,updW s.2.2 537919488 3235799053):=by
  have:=end_one (E:=E) (j:=q+5) (s:=(ρ2,s.2.1,updW s.2.2 537919488 3235799053)) (j':=q+5) (s':=(ρ2,s.2.1,updW s.2.2 537919488 3235799053)) (by rw[step_op Q.e5];rfl)
  rw[beq_eq_false_iff_ne.2 (show q+5≠E.h by omega)] at this
  exact this
 exact⟨_,((g1.trans g2).trans g3).ends g4,rfl⟩
section
variable {I mo mr n:Nat} {b:Bool} (hs:SzOk (4*mo) (4*mr) n) (hI:I+mo≤mr)
include hs hI
theorem g_copy (s:IS):∃s',GoTo (gateE (4*I) (4*mo) (4*mr) n b) (18*mo+5) 0 0 s 19 s'∧(∀t,t<mo→s'.2.2 (537001984+4*t)=s.2.2 (537133056+4*(I+t)))∧∀a,(∀t,t<mo→a≠537001984+4*t)→s'.2.2 a=s.2.2 a:=by
 have H:=gate_hand (4*I) mo mr n b hs
 have C:=gate_c (4*I) (4*mo) (4*mr) n b
 have hr:=hs.rail
 have ho:=hs.out
 have n1:wn ((4*I:Nat):Int)=4*I:=wn_nat (by omega)
 have n2:wn ((4*mo:Nat):Int)=4*mo:=wn_nat (by omega)
 have hh:=gate_h (4*I) (4*mo) (4*mr) n b
 have f0:=first_stepL C.i0 (by rw[hh];cases b<;>decide) s
 obtain⟨s1,g1,z1,k1⟩:=cl_all C n1 n2 (by omega) (fun t ht=>⟨(h_out H ht).1,by
  rw[show 4*t+4*I=4*(I+t) by omega]
  exact(h_a H (by omega)).2⟩) mo 0 (updR s.1 1 0,s.2) (by omega) (one_zero s)
 refine⟨s1,?_,fun t ht=>?_,fun a ha=>k1 a (fun t _ ht=>ha t ht)⟩
 ·have:=f0.trans g1
  rw[show 1+(18*mo+4)=18*mo+5 by omega] at this
  exact this
 ·rw[z1 t (Nat.zero_le _) ht,show 4*t+4*I=4*(I+t) by omega]
theorem g_look (s:IS) :
  ((∀t,t<mo→s.2.2 (537001984+4*t)=s.2.2 (537133056+4*(I+t))∧s.2.2 (537001984+4*t)=s.2.2 (537395200+4*(I+t)))→∃s',GoTo (gateE (4*I) (4*mo) (4*mr) n true) (26*mo+5) 0 19 s 46 s'∧s'.2.2=s.2.2) ∧
  ((∃t,t<mo∧¬(s.2.2 (537001984+4*t)=s.2.2 (537133056+4*(I+t))∧s.2.2 (537001984+4*t)=s.2.2 (537395200+4*(I+t))))→∃k s',k≤26*mo+5∧GoTo (gateE (4*I) (4*mo) (4*mr) n true) k 0 19 s 53 s'∧s'.2.2=s.2.2):=by
 have H:=gate_hand (4*I) mo mr n true hs
 have C:=gate_v (4*I) (4*mo) (4*mr) n
 have hr:=hs.rail
 have ho:=hs.out
 have n1:wn ((4*I:Nat):Int)=4*I:=wn_nat (by omega)
 have n2:wn ((4*mo:Nat):Int)=4*mo:=wn_nat (by omega)
 have hh:(gateE (4*I) (4*mo) (4*mr) n true).h=53:=gate_h (4*I) (4*mo) (4*mr) n true
 have f0:=first_stepL C.i0 (by rw[hh];decide) s
 obtain⟨a1,a2⟩:=vl_all C n1 n2 (by omega) (fun t ht=>⟨(h_out H ht).2,by
  rw[show 4*t+4*I=4*(I+t) by omega]
  exact(h_a H (by omega)).2,by
  rw[show 4*t+4*I=4*(I+t) by omega]
  exact(h_b H (by omega)).2⟩) mo 0 (updR s.1 1 0,s.2) (by omega) (one_zero s)
 have eq:∀t,EqT (4*I) s.2.2 t↔s.2.2 (537001984+4*t)=s.2.2 (537133056+4*(I+t))∧s.2.2 (537001984+4*t)=s.2.2 (537395200+4*(I+t)):=fun t=>by
  unfold EqT
  rw[show 4*t+4*I=4*(I+t) by omega]
 constructor
 ·intro hz
  obtain⟨s1,g1,w1⟩:=a1 (fun t _ ht=>(eq t).2 (hz t ht))
  refine⟨s1,?_,w1⟩
  have:=f0.trans g1
  rw[show 1+(26*mo+4)=26*mo+5 by omega] at this
  exact this
 ·rintro⟨t,ht,hne⟩
  obtain⟨k,s1,hk,g1,w1⟩:=a2 ⟨t,Nat.zero_le _,ht,fun he=>hne ((eq t).1 he)⟩
  rw[hh] at g1
  exact⟨1+k,s1,by omega,f0.trans g1,w1⟩
end
end Go.Av
end
section
namespace Go.Av
open Go
section
variable {E:Env} {mo mr:Nat} (H:HandAt E mo mr)
include H
end
end Go.Av
end
section
namespace Go.Av
open Go
theorem hit_sk (f:tFault.den) (s:IS) (h:(f.1==(1:Int))=true):hitI f s=s:=by
 have:f.1=(1:Int):=by simpa using h
 unfold hitI
 rw[this]
 rfl
theorem step_skip {E:Env} {j:Nat} {p:PI} (h:E.P[j]?=some p) (s:IS):stepI E true j s=(false,j+1,s):=by
 unfold stepI
 rw[h]
 rfl
section
variable {E:Env} {mo mr:Nat} (H:HandAt E mo mr)
include H
end
end Go.Av
end
section
namespace Go.Av
open Go
section
variable (mo mr n:Nat)
def hE:Env:=handE (4*mo) (4*mr) n true
variable {mo mr n}
variable (hs:SzOk (4*mo) (4*mr) n)
include hs
end
end Go.Av
end
section
namespace Go.Av
open Go
def One (W W':Nat→Nat):Prop:=∃a,∀x,x≠a→W' x=W x
theorem One.refl (W:Nat→Nat):One W W:=⟨0,fun _ _=>rfl⟩
end Go.Av
end
section
namespace Go.Av
open Go
section
variable {E:Env} {mo mr q:Nat} (H:HandAt E mo mr) (Q:QEnd E q) (hq:E.P[q+6]?=some (.op (insI 2 0 0 0 0 0 0)))
include H
include Q
include hq
end
end Go.Av
end
section
namespace Go.Av
open Go
theorem SameOut.refl (W:Nat→Nat):SameOut W W:=fun _ _=>rfl
theorem SameOut.trans {W W' W'':Nat→Nat} (h:SameOut W W') (h':SameOut W' W''):SameOut W W'':=fun a ha=>by rw[h' a ha,h a ha]
section
variable (I mo mr n:Nat)
variable {I mo mr n}
variable (hs:SzOk (4*mo) (4*mr) n) (hI:I+mo≤mr)
include hs
include hI
variable (X W:Nat→Nat) (hX:∀t,t<mo→W (537133056+4*(I+t))=X t∧W (537395200+4*(I+t))=X t)
include hX
end
end Go.Av
end
