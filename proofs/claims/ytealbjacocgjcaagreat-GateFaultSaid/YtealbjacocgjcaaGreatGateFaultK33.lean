/- Texts of the proof, one behind the other. -/
import Derived.Test.YtealbjacocgjcaaGreatGateFaultK32
import Derived.Test.YtealbjacocgjcaaGreatGateFaultK31
import Derived.WalkKit
import Derived.Defers
import Derived.Recover
import Derived.Test.YtealbjacocgjcaaGreatGateFaultK22
import Derived.Test.YtealbjacocgjcaaGreatProg
import Derived.WalkSpells
import Derived.WalkLawsBesides
import Derived.Lib.Builder
import Derived.Lib.Walk
import Derived.Lib.AppendStr
import Derived.Lib.UnsafeStr
import Derived.Laws.Externs
import Derived.BigRegion
import Derived.Test.YtealbjacocgjcaaGreatGateFaultK29
import Derived.Test.YtealbjacocgjcaaGreatGateFaultK21
import Derived.Deep.QuietTactic
import Derived.BigQuiet
import Derived.Test.YtealbjacocgjcaaGreatGateFaultK25
import Derived.Test.YtealbjacocgjcaaGreatGateFaultK26
import Derived.Test.YtealbjacocgjcaaGreatGateFaultK27
import Derived.Test.YtealbjacocgjcaaGreatGateFaultK30
section
namespace Go.Av
open Go
def qgD (E:Env) (f:Nat→Bool) (j:Nat):Bool:=match E.P[j]? with
 |none=>f E.h
 |some (.op i)=>bif i.1==2 then true else f (j+1)&&(bif i.1==19||i.1==20 then f E.h else true)
 |some (.br o _ t)=>f t&&(bif o==24 then true else f (j+1))
def qoc (E:Env) (j:Nat):Bool:=match E.P[j]? with
 |some (.op i)=>!(i.1==20)
 |_=>true
theorem qrR {E:Env} {f:Nat→Bool} {j:Nat} (h:qgD E f j=true) (s:IS) (hd:(qN E false j s).1=false):f (qN E false j s).2.1=true:=by
 unfold qgD at h
 unfold qN at hd ⊢
 cases hp:E.P[j]? with
 |none=>rw[hp] at h;exact h
 |some p =>
  rw[hp] at h hd
  cases p with
  |op i =>
   have hd:(doI E j i s).1=false:=hd
   show f (doI E j i s).2.1=true
   dsimp only at h
   unfold doI at hd ⊢
   cases e2:(i.1==(2:Int))
   ·rw[e2] at h
    simp only[cond_false,Bool.and_eq_true] at h
    obtain⟨h1,h3⟩:=h
    cases e19:(i.1==(19:Int))
    ·rw[e19] at h3
     cases e20:(i.1==(20:Int))
     ·cases (i.1==(23:Int))<;>exact h1
     ·rw[e20] at h3
      cases E.okW (s.1 i.2.2.1)
      ·exact h3
      ·exact h1
    ·rw[e19] at h3
     cases E.okR (s.1 i.2.2.1)
     ·exact h3
     ·exact h1
   ·rw[e2] at hd
    cases hd
  |br o c t =>
   simp only[Bool.and_eq_true] at h
   show f (bif qbV s.2.1 o c then(false,t,s) else(false,j+1,s)).2.1=true
   cases hg:qbV s.2.1 o c
   ·have ho:(o==(24:Int))=false:=by
     cases ho:(o==(24:Int))
     ·rfl
     ·unfold qbV at hg
      rw[ho] at hg
      cases hg
    rw[ho] at h
    exact h.2
   ·exact h.1
theorem qrJ {E:Env} {j:Nat} (h:qoc E j=true) (sk:Bool) (s:IS):(qN E sk j s).2.2.2.2=s.2.2:=by
 unfold qoc at h
 unfold qN
 cases hp:E.P[j]? with
 |none=>rfl
 |some p =>
  rw[hp] at h
  cases sk
  ·show(atI E j s p).2.2.2.2=_
   cases p with
   |op i =>
    have h:(i.1==(20:Int))=false:=by simpa using h
    show(doI E j i s).2.2.2.2=_
    unfold doI
    rw[h]
    cases (i.1==(2:Int))
    ·cases (i.1==(19:Int))
     ·cases (i.1==(23:Int))<;>rfl
     ·cases E.okR (s.1 i.2.2.1)<;>rfl
    ·rfl
   |br o c t =>
    show(bif qbV s.2.1 o c then(false,t,s) else(false,j+1,s)).2.2.2.2=_
    cases qbV s.2.1 o c<;>rfl
  ·rfl
theorem qj4 {E:Env} {k c j j':Nat} {s s':IS} (h:GoTo E (k+1) c j s j' s'):∃j1 s1 c1,qN E false j s=(false,j1,s1)∧GoTo E k c1 j1 s1 j' s'∧c=(bif j==E.h then 1 else 0)+c1:=by
 unfold GoTo at h
 rw[goN] at h
 simp only[cond_false,Prod.mk.injEq] at h
 obtain⟨h1,h2,h3⟩:=h
 generalize hq:qN E false j s=q at *
 obtain⟨b,j1,s1⟩:=q
 cases b with
 |true =>
  rw[que E k rfl] at h3
  have:=congrArg (fun x=>x.1) h3
  cases this
 |false =>
  refine⟨j1,s1,(goN E k (false,j1,s1)).2.1,rfl,?_,h2.symm⟩
  unfold GoTo
  have e1:(goN E k (false,j1,s1)).1=k:=by omega
  rw[←h3]
  exact Prod.ext e1 rfl
theorem qvy {E:Env} {Q:Nat→Bool} (hQ:∀j,Q j=true→qgD E (fun x=>Q x||x==E.h) j=true):∀(k:Nat) (j:Nat) (s:IS) (j':Nat) (s':IS),Q j=true→GoTo E k 0 j s j' s'→Q j'=true∨j'=E.h
 |0,j,s,j',s',hj,h=>by
  have h:((0,0,false,j,s):Nat×Nat×IO3)=(0,0,false,j',s'):=h
  injection h with _ h
  injection h with _ h
  injection h with _ h
  injection h with h _
  rw[←h]
  exact .inl hj
 |k+1,j,s,j',s',hj,h=>by
  obtain⟨j1,s1,c1,e1,g1,ec⟩:=qj4 h
  have c0:c1=0:=by omega
  subst c0
  have:=qrR (hQ j hj) s (by rw[e1])
  rw[e1] at this
  simp only[Bool.or_eq_true,beq_iff_eq] at this
  rcases this with h1 |h1
  ·exact qvy hQ k j1 s1 j' s' h1 g1
  ·subst h1
   cases k with
   |zero =>
    have g1:((0,0,false,E.h,s1):Nat×Nat×IO3)=(0,0,false,j',s'):=g1
    injection g1 with _ g1
    injection g1 with _ g1
    injection g1 with _ g1
    injection g1 with g1 _
    exact .inr g1.symm
   |succ k =>
    obtain⟨_,_,c2,_,_,ec2⟩:=qj4 g1
    rw[beq_self_eq_true] at ec2
    simp only[cond_true] at ec2
    omega
theorem stay {E:Env} {S R:Nat→Bool} {e:Nat} (hS:∀j,S j=true→qgD E (fun x=>S x||(x==e||x==E.h)) j=true) (hR:∀j,R j=true→qgD E (fun x=>R x||x==E.h) j=true) (hRe:R e=false) (he:qgD E (fun x=>R x||x==E.h) e=true) (heh:e≠E.h) :
  ∀(k:Nat) (j:Nat) (s s':IS),S j=true→GoTo E k 0 j s e s'→∀t,t<k→∃jt st,GoTo E t 0 j s jt st∧S jt=true∧((∀x,S x=true→qoc E x=true)→st.2.2=s.2.2)
 |0,_,_,_,_,_,t,ht=>by cases ht
 |k+1,j,s,s',hj,h,t,ht=>by
  cases t with
  |zero=>exact⟨j,s,GoTo.refl E j s,hj,fun _=>rfl⟩
  |succ t =>
   obtain⟨j1,s1,c1,e1,g1,ec⟩:=qj4 h
   have c0:c1=0:=by omega
   subst c0
   have hjh:(j==E.h)=false:=by
    cases hb:(j==E.h)
    ·rfl
    ·rw[hb] at ec;simp only[cond_true] at ec;omega
   have:=qrR (hS j hj) s (by rw[e1])
   rw[e1] at this
   simp only[Bool.or_eq_true,beq_iff_eq] at this
   rcases this with h1 |h1 |h1
   ·obtain⟨jt,st,g,hst,hmem⟩:=stay hS hR hRe he heh k j1 s1 s' h1 g1 t (by omega)
    refine⟨jt,st,qS e1 (by simpa using hjh) g,hst,fun hx=>?_⟩
    rw[hmem hx]
    have:=qrJ (hx j hj) false s
    rw[e1] at this
    exact this
   ·subst h1
    exfalso
    cases k with
    |zero=>omega
    |succ k =>
     obtain⟨j2,s2,c2,e2,g2,ec2⟩:=qj4 g1
     have c0:c2=0:=by omega
     subst c0
     have:=qrR he s1 (by rw[e2])
     rw[e2] at this
     simp only[Bool.or_eq_true,beq_iff_eq] at this
     rcases this with h2 |h2
     ·rcases qvy hR k j2 s2 j1 s' h2 g2 with h3 |h3
      ·rw[hRe] at h3;cases h3
      ·exact heh h3
     ·subst h2
      cases k with
      |zero =>
       have g2:((0,0,false,E.h,s2):Nat×Nat×IO3)=(0,0,false,j1,s'):=g2
       injection g2 with _ g2
       injection g2 with _ g2
       injection g2 with _ g2
       injection g2 with g2 _
       exact heh g2.symm
      |succ k =>
       obtain⟨_,_,c3,_,_,ec3⟩:=qj4 g2
       rw[beq_self_eq_true] at ec3
       simp only[cond_true] at ec3
       omega
   ·subst h1
    exfalso
    cases k with
    |zero =>
     have g1:((0,0,false,E.h,s1):Nat×Nat×IO3)=(0,0,false,e,s'):=g1
     injection g1 with _ g1
     injection g1 with _ g1
     injection g1 with _ g1
     injection g1 with g1 _
     exact heh g1.symm
    |succ k =>
     obtain⟨_,_,c3,_,_,ec3⟩:=qj4 g1
     rw[beq_self_eq_true] at ec3
     simp only[cond_true] at ec3
     omega
def cfR (E:Env) (stop:Nat→Bool):Nat→Nat→Bool
 |0,j=>stop j
 |n+1,j=>stop j||(qoc E j&&(match E.P[j]? with
  |none=>cfR E stop n E.h
  |some (.op i)=>!(i.1==2)&&(cfR E stop n (j+1)&&(bif i.1==19||i.1==20 then cfR E stop n E.h else true))
  |some (.br o _ t)=>cfR E stop n t&&(bif o==24 then true else cfR E stop n (j+1))))
theorem qxU {E:Env} {stop:Nat→Bool} (hh:stop E.h=true):∀(n j:Nat) (s:IS),cfR E stop n j=true→∃k j' s',k≤n∧GoTo E k 0 j s j' s'∧stop j'=true∧s'.2.2=s.2.2
 |0,j,s,h=>⟨0,j,s,Nat.le_refl _,GoTo.refl E j s,h,rfl⟩
 |n+1,j,s,h=>by
  cases hs:stop j with
  |true=>exact⟨0,j,s,Nat.zero_le _,GoTo.refl E j s,hs,rfl⟩
  |false =>
   have hj:j≠E.h:=fun e=>by rw[e,hh] at hs;cases hs
   simp only[cfR,hs,Bool.false_or,Bool.and_eq_true] at h
   obtain⟨hn,h⟩:=h
   have hd:(qN E false j s).1=false:=by
    unfold qN
    cases hp:E.P[j]? with
    |none=>rfl
    |some p =>
     rw[hp] at h
     cases p with
     |op i =>
      simp only[Bool.and_eq_true,Bool.not_eq_true'] at h
      show(doI E j i s).1=false
      unfold doI
      rw[h.1]
      cases (i.1==(19:Int))
      ·cases (i.1==(20:Int))
       ·cases (i.1==(23:Int))<;>rfl
       ·cases E.okW (s.1 i.2.2.1)<;>rfl
      ·cases E.okR (s.1 i.2.2.1)<;>rfl
     |br o c t =>
      show(bif qbV s.2.1 o c then(false,t,s) else(false,j+1,s)).1=false
      cases qbV s.2.1 o c<;>rfl
   have hsuc:qgD E (fun x=>cfR E stop n x) j=true:=by
    unfold qgD
    cases hp:E.P[j]? with
    |none=>rw[hp] at h;exact h
    |some p =>
     rw[hp] at h
     cases p with
     |op i =>
      simp only[Bool.and_eq_true,Bool.not_eq_true'] at h
      dsimp only
      rw[h.1,cond_false,h.2.1,h.2.2]
      rfl
     |br o c t =>
      simp only[Bool.and_eq_true] at h
      dsimp only
      rw[h.1,h.2]
      rfl
   have hc:=qrR hsuc s hd
   have hm:=qrJ hn false s
   generalize hq:qN E false j s=q at *
   obtain⟨b,j1,s1⟩:=q
   dsimp only at hd hc hm
   subst hd
   obtain⟨k,j',s',h1,h2,h3,h4⟩:=qxU hh n j1 s1 hc
   exact⟨k+1,j',s',by omega,qS hq hj h2,h3,by rw[h4,hm]⟩
end Go.Av
end
section
namespace Go.Av
open Go
abbrev qgG:List Ty:=[qiB]
abbrev qit:Sh:=Sh.ty Ty.bool
def qif (x:qd qgG):PO (Sh.den qit) :=
 (.ret (decide (x.1≥0)&&(decide (x.1≤8)&&(decide (x.2.1≥0)&&decide (x.2.1≤8)))))
def qk6 (_:qd qgG):Bool:=true
def qdm (x:qd qgG):Sh.den qit:=(qif x).qH default
theorem quy (x:qd qgG) (_:qk6 x=true):(qif x).val=some (qdm x):=PO.qco default (by simp[qif,PO.sure])
abbrev qfE:List Ty:=[qiB]
abbrev qhs:Sh:=Sh.ty qbQ
def qhj (x:qd qfE):PO (Sh.den qhs) :=
 (.ret ((0,w64 (4*x.2.1),w64 (w64 (w64 (4*x.1)+w64 (4*x.2.1))+4),())))
def qjY (_:qd qfE):Bool:=true
def qbH (x:qd qfE):Sh.den qhs:=(qhj x).qH default
theorem qtr (x:qd qfE) (_:qjY x=true):(qhj x).val=some (qbH x):=PO.qco default (by simp[qhj,PO.sure])
def qfv:LoopN where
 M:=[1,2,5,6]
 T:=[7,8,9,10,11,12,13,14,15,16,17,18,19,20,21,22,23,24,25,26,27,28,29,30,31,32]
 D:=[1,2,6]
 ss:=[.ty (.int .i64),.box 0 0,.ty (.int .i64),.ty (.int .i64)]
 hs:=[.ty qiB]
 es:=[.exit 0]
 σ:=(Ty.den (.int .i64))×(Ty.den (.int .i64))×(Sh.den (.ty qiB))
 x0:=fun x y=>(x.2.2.1,x.2.2.2,y)
 put:=fun x _ s=>((x.1,x.2.1,s.1,s.2.1),s.2.2)
 fuel:=fun _ y=>List.length y.2.2.1+1
 turn:=fun x _ s =>
 (.ite (decide (s.2.1<qi s.2.2.2.2.1)&&decide (s.2.1<20))
  (.ite (inRange s.2.1 (List.length s.2.2.2.2.1))
  (.ite (bif (List.getD s.2.2.2.2.1 (Int.toNat s.2.1) (Ty.dflt qbi)).2.1==x.1 then inRange s.2.1 (List.length s.2.2.2.2.1) else true)
   (.ret (.on (bif (List.getD s.2.2.2.2.1 (Int.toNat s.2.1) (Ty.dflt qbi)).2.1==x.1 then qR IntKind.i64 (List.getD s.2.2.2.2.1 (Int.toNat s.2.1) (Ty.dflt qbi)).2.2.1 4294967295 else s.1,w64 (s.2.1+1),s.2.2)))
   .fail)
  .fail)
  (.ret (.out 0 (s.1,s.2.1,s.2.2))))
abbrev qge:List Ty:=[qiB,(.int .i64)]
abbrev qhY:Sh:=Sh.ty (Ty.int IntKind.i64)
def qeS (x:qd qge):PO (Sh.den qhY) :=
 (.opt (LoopN.res qfv (x.2,(),0,0) x.1) fun p0 =>
  (.ret (p0.2.1)))
def qdF (x:qd qge):Bool:=(qeS x).val.isSome
def qbx (x:qd qge):Sh.den qhY:=(qeS x).qH default
theorem qtL (x:qd qge) (h:qdF x=true):(qeS x).val=some (qbx x):=PO.qcg default h
def qfe:LoopN where
 M:=[1,3,4]
 T:=[5,6,7,8,9,10,11,12,13,14,15,16,17,18,19,20,21,22,23,24,25,26,27,28,29,30,31]
 D:=[1,4]
 ss:=[.box 0 0,.osl 0 (.int .u8),.ty (.int .i64)]
 hs:=[.ty qiB]
 es:=[.exit 0]
 σ:=(List (Ty.den (.int .u8)))×(Ty.den (.int .i64))×(Sh.den (.ty qiB))
 x0:=fun x y=>(x.2.1,x.2.2,y)
 put:=fun x _ s=>((x.1,s.1,s.2.1),s.2.2)
 fuel:=fun _ y=>Int.toNat y.2.1+1
 turn:=fun _ _ s =>
 (.ite (decide (s.2.1<s.2.2.2.1))
  (.ite (qdF (s.2.2,w64 (s.2.2.1+s.2.1)))
  (.ite (Nat.ble ((List.length s.1+List.length [IntKind.wrap IntKind.u8 (qbx (s.2.2,w64 (s.2.2.1+s.2.1))),IntKind.wrap IntKind.u8 (qw IntKind.i64 (qbx (s.2.2,w64 (s.2.2.1+s.2.1))) 8),IntKind.wrap IntKind.u8 (qw IntKind.i64 (qbx (s.2.2,w64 (s.2.2.1+s.2.1))) 16),IntKind.wrap IntKind.u8 (qw IntKind.i64 (qbx (s.2.2,w64 (s.2.2.1+s.2.1))) 24)])*1) 140737488355328)
   (.ret (.on (s.1++[IntKind.wrap IntKind.u8 (qbx (s.2.2,w64 (s.2.2.1+s.2.1))),IntKind.wrap IntKind.u8 (qw IntKind.i64 (qbx (s.2.2,w64 (s.2.2.1+s.2.1))) 8),IntKind.wrap IntKind.u8 (qw IntKind.i64 (qbx (s.2.2,w64 (s.2.2.1+s.2.1))) 16),IntKind.wrap IntKind.u8 (qw IntKind.i64 (qbx (s.2.2,w64 (s.2.2.1+s.2.1))) 24)],w64 (s.2.1+1),s.2.2)))
   .fail)
  .fail)
  (.ret (.out 0 (s.1,s.2.1,s.2.2))))
abbrev qfJ:List Ty:=[qiB]
abbrev qhk:Sh:=Sh.ty Ty.str
def qen (x:qd qfJ):PO (Sh.den qhk) :=
 (.opt (LoopN.res qfe ((),[],0) x) fun p0 =>
  (.ret (List.map toByte p0.2.1)))
def qdq (x:qd qfJ):Bool:=(qen x).val.isSome
def qcA (x:qd qfJ):Sh.den qhk:=(qen x).qH default
theorem qts (x:qd qfJ) (h:qdq x=true):(qen x).val=some (qcA x):=PO.qcg default h
def qDS {α:Type} (base:List qk.den) (x:qbi.den) (sz:qbQ.den) (K:List qk.den→PO α):PO α:=.ite (qdx x sz) (K base) (qIy base (qvL x) K)
def qdy:LoopN where
 M:=[1,3,4,5]
 T:=[6,9,10,11,12,13,14,15,16,17,18,19,20,21,22,23,24,25,26,27,28,29,30,31,32,33,34]
 D:=[1,4,5]
 ss:=[.box 0 0,.osl 0 qk,.box 1 0,.ty (.int .i64)]
 hs:=[.ty qiB,.ty qbQ]
 es:=[.exit 0]
 σ:=(List (Ty.den qk))×(Ty.den (.int .i64))×(Sh.den (.ty qiB))×(Sh.den (.ty qbQ))
 x0:=fun x y=>(x.2.1,x.2.2.2,y.1,y.2)
 put:=fun x _ s=>((x.1,s.1,x.2.2.1,s.2.1),(s.2.2.1,s.2.2.2))
 fuel:=fun _ y=>List.length y.1.2.2.1+1
 turn:=fun _ _ s =>
 (.ite (decide (s.2.1<qi s.2.2.1.2.2.1)&&decide (s.2.1<20))
  (.ite (inRange s.2.1 (List.length s.2.2.1.2.2.1))
  (qDS s.1 (1,(List.getD s.2.2.1.2.2.1 (Int.toNat s.2.1) (Ty.dflt qbi)).2) s.2.2.2 fun o=>qDS o (2,(List.getD s.2.2.1.2.2.1 (Int.toNat s.2.1) (Ty.dflt qbi)).2) s.2.2.2 fun o' =>
   .ret (.on (o',w64 (s.2.1+1),s.2.2.1,s.2.2.2)))
  .fail)
  (.ret (.out 0 (s.1,s.2.1,s.2.2.1,s.2.2.2))))
abbrev qpC (x:qd [qiB,.bool,.bool]):List qk.den:=qmj (w64 (4*x.1.1),(qbH x.1).2.1,x.2.1,0,20)
abbrev qpG (x:qd [qiB,.bool,.bool]):List qk.den:=qdA (qbH x.1,x.2.1,0,1)
def qyd (x:qd [qiB,.bool,.bool]):List qk.den:=bif x.2.2 then qsw (qpC x++qpG x) else qpC x++qpG x
def qyS (x:qd [qiB,.bool,.bool]) (l:List qk.den):PO (List UInt8×Int×Unit) :=
 .ite (Nat.ble ((List.length (qpC x)+List.length (qpG x))*80) 140737488355328)
  (.ite (bif x.2.2 then qnl (qpC x++qpG x) else true)
   (.ite (Nat.ble ((List.length l+List.length (qyd x))*80) 140737488355328)
    (.ite (qcx (l++qyd x,qbH x.1,0))
     (.ret (qbp (l++qyd x,qbH x.1,0),qi l,()))
     .fail)
    .fail)
   .fail)
  .fail
abbrev qfG:List Ty:=[qiB,.bool,.bool]
abbrev qhe:Sh:=Sh.tup (Sh.pair (Sh.ty Ty.str) (Sh.pair (Sh.ty (Ty.int IntKind.i64)) (Sh.ty Ty.unit)))
def qex (x:qd qfG):PO (Sh.den qhe) :=
 (.opt (LoopN.res qdy ((),[],(),0) (x.1,qbH x.1)) fun p0 =>
  (.ite (x.1.2.2.2.1&&decide (x.1.2.1 > 0))
  (.ite (qdF (x.1,x.1.1))
   (qDS p0.2.1 (2,x.1.1,qda IntKind.i64 (qbx (x.1,x.1.1)) 1,()) (qbH x.1) (qyS x))
   .fail)
  (qyS x p0.2.1)))
def qem (x:qd qfG):Bool:=(qex x).val.isSome
def qr (x:qd qfG):Sh.den qhe:=(qex x).qH default
theorem qtn (x:qd qfG) (h:qem x=true):(qex x).val=some (qr x):=PO.qcg default h
abbrev qb2:List Ty:=[qiB,qX]
abbrev qrB:Sh:=Sh.ty Ty.bool
def qhK (x:qd qb2):PO (Sh.den qrB) :=
 (.ite (!qdm x.1||(x.1.2.2.2.1||true))
  (.ite (!qdm x.1||(x.1.2.2.2.1||qM x.2 != 0))
  (.ret (true))
  (.ite (qem (x.1,true,false))
   (.ite ((qO ((qr (x.1,true,false)).1,[],(0,0,0,0,()),20000)).2.1 != 0||(!(qO ((qr (x.1,true,false)).1,[],(0,0,0,0,()),20000)).1.1||true))
   (.ite ((qO ((qr (x.1,true,false)).1,[],(0,0,0,0,()),20000)).2.1 != 0||(!(qO ((qr (x.1,true,false)).1,[],(0,0,0,0,()),20000)).1.1||(qe7 (qO ((qr (x.1,true,false)).1,[],(0,0,0,0,()),20000)).1).1 != 1))
    (.ret (false))
    (.ite (decide (x.2.2.1<(qr (x.1,true,false)).2.1))
    (.ret (true))
    (.ite ((qO ((qr (x.1,true,false)).1,[],x.2,40000)).2.1 != 0||(!(qO ((qr (x.1,true,false)).1,[],x.2,40000)).1.1||true))
     (.ite ((qO ((qr (x.1,true,false)).1,[],x.2,40000)).2.1 != 0||(!(qO ((qr (x.1,true,false)).1,[],x.2,40000)).1.1||decide ((qO ((qr (x.1,true,false)).1,[],x.2,40000)).1.2.1 > w64 ((qO ((qr (x.1,true,false)).1,[],(0,0,0,0,()),20000)).1.2.1+qfH (qbH x.1)))))
     (.ret (false))
     (.ite (bif (qe7 (qO ((qr (x.1,true,false)).1,[],x.2,40000)).1).1 != 1 then(qO ((qr (x.1,true,false)).1,[],x.2,40000)).1.2.2.2.1==0||qfW (qO ((qr (x.1,true,false)).1,[],x.2,40000)).1&&(qdN (qO ((qr (x.1,true,false)).1,[],x.2,40000)).1||true) else qdq x.1&&bif (qe7 (qO ((qr (x.1,true,false)).1,[],x.2,40000)).1).2.1==qcA x.1 then(qO ((qr (x.1,true,false)).1,[],x.2,40000)).1.2.2.2.1==0||qfW (qO ((qr (x.1,true,false)).1,[],x.2,40000)).1&&(qdN (qO ((qr (x.1,true,false)).1,[],x.2,40000)).1||true) else true)
      (.ret (bif (qe7 (qO ((qr (x.1,true,false)).1,[],x.2,40000)).1).1 != 1 then(qO ((qr (x.1,true,false)).1,[],x.2,40000)).1.2.2.2.1==0||qdN (qO ((qr (x.1,true,false)).1,[],x.2,40000)).1&&true else(qe7 (qO ((qr (x.1,true,false)).1,[],x.2,40000)).1).2.1==qcA x.1&&((qO ((qr (x.1,true,false)).1,[],x.2,40000)).1.2.2.2.1==0||qdN (qO ((qr (x.1,true,false)).1,[],x.2,40000)).1&&true)))
      .fail))
     .fail)))
   .fail)
   .fail))
  .fail)
end Go.Av
end
section
namespace Go.Proofs.YtealbjacocgjcaaGreat
open Go Go.Av Go.Proofs Go.RowKit
noncomputable def qtT:Code:=match Tryz.f79.body with
 |some (.seq _ r)=>r
 |_=>.skip
theorem qMu (w:World):(Instr.typeAssert .nilIface 20 148 true).run Tryz.prog w=.ok (.tuple #[.agg #[.int .i64 0],.bool false]) w:=by
 kernel_rfl
theorem qNp (v:Value) (w:World):(Instr.typeAssert (.iface 148 v) 20 148 true).run Tryz.prog w=.ok (.tuple #[v,.bool true]) w:=by
 kernel_rfl
theorem qHF (cap:Array Value) (w:World):(invoke (.fn (.func 79) cap) #[]).run Tryz.prog w=.ok (.enter 79 cap) w:=by
 have h1 : (Tryz.f79.name == "runtime.NumGoroutine") = false := by kernel_rfl
 have h2:Tryz.f79.body.isNone=false:=by kernel_rfl
 have h3:Tryz.prog.funcs[79]?=some Tryz.f79:=Tryz.func79
 simp only[invoke,callFunc]
 rw[show(#[]:Array Value)++cap=cap by simp]
 simp only[Sem.run_bind,run_program,Result.andThen_ok,h3,h1,h2,Bool.false_eq_true,if_false]
 rfl
set_option maxRecDepth 100000 in
set_option maxHeartbeats 2000000 in
theorem qBh:Catches Tryz.prog 79 148 Tryz.f79 qtT where
 enter:=qHF
 idle:=fun p0 p1 p2 w=>by
  refine callsD_of_wpS (c:=.seq (.region _ _ false) qtT) Tryz.func79 rfl fun c₀ cs hu=>?_
  simp only[Tryz.ntmps79,List.size_toArray,List.length_cons,List.length_nil,Nat.reduceAdd,Nat.reduceSub,Array.replicate_succ,Array.replicate_zero,List.push_toArray,List.append_toArray,List.nil_append,List.cons_append]
  apply wpS_seq
  apply wpS_region
  simp[wpOpsS,go_sem,recoverD,hu,Exit.thenS,qMu]
  refine wpS_of_wp ?_
  refine Code.wp_mono (Q:=fun e a' w'=>e=.normal∧a'.defers=[]∧w'=w.alloc (.cells #[.int .i64 0] 148)) (fun e a' w' hq=>?_) ?_
  ·obtain⟨rfl,hd,rfl⟩:=hq
   exact⟨hd,.returning,by rw[←hu],_,results_none rfl _ _ _,⟨_,rfl⟩,rfl,rfl⟩
  ·show Code.wp _ (.seq (.region _ _ false) (.cond (.tmp 10) _ .skip)) _ _ _
   refine wp_seq (wp_region ?_)
   simp[wpOps,go_sem,Exit.then]
   refine .inl (wp_cond (t:=false) ?_ ?_)
   ·simp[Act.eval]
   simp only[Bool.false_eq_true,if_false]
   exact wp_skip ⟨rfl,rfl,rfl⟩
 caught:=fun p0 p1 p2 m w Rr h=>by
  refine callsD_of_wpS (c:=.seq (.region _ _ false) qtT) Tryz.func79 rfl fun c₀ cs hu=>?_
  simp only[Tryz.ntmps79,List.size_toArray,List.length_cons,List.length_nil,Nat.reduceAdd,Nat.reduceSub,Array.replicate_succ,Array.replicate_zero,List.push_toArray,List.append_toArray,List.nil_append,List.cons_append]
  apply wpS_seq
  apply wpS_region
  simp[wpOpsS,go_sem,recoverD,hu,Exit.thenS,qNp]
  refine wpS_of_wp (Code.wp_mono (fun e a' w' hq=>?_) (h _ rfl rfl rfl rfl rfl rfl))
  obtain⟨he,hd,hr⟩:=hq
  rcases he with rfl |rfl
  ·exact⟨hd,_,rfl,_,results_none rfl _ _ _,⟨_,rfl⟩,rfl,hr⟩
  ·exact⟨hd,_,rfl,_,results_none rfl _ _ _,⟨_,rfl⟩,rfl,hr⟩
theorem qPB {C:Ctx} (hC:Av.Good C) (hP:C.P=Tryz.prog) (unroll d:Nat):qms C.P 42 (qx6 C qd7 unroll d 42 79 148) :=
 qI4 hC (gn:=Tryz.f79) (rest:=qtT) (by rw[hP];exact Tryz.func79) rfl (by rw[hP];exact qBh)
end Go.Proofs.YtealbjacocgjcaaGreat
end
section
namespace Go.Proofs.YtealbjacocgjcaaGreat
open Go Go.RowKit Go.Av Go.Proofs
section
variable {P:Program} (w:World)
theorem qFd (t u ty e:TypeId) (i:TypeInfo) (ht:P.underlying t=some (.slice e)) (hu:P.underlying u=some .string) (hi:P.info? e=some i) (hz:i.zero=some (.int .u8 0))
  (hsize:i.size=1) (hby:i.bytes=1) (v:Value) (n:Nat) (xs:List Value) (hown:w.ownsRow 0 e 1 v n xs) (s:ByteArray) (hlen:n+s.size≤140737488355328) :
  ∃v' w',(Builtin.append_ #[t,u] ty #[v,.string s]).run P w=.ok v' w'∧w'.ownsRow 0 e 1 v' (n+s.size) (xs++Lib.strCells s)∧w.grownBy w' v.ownBlock∧(v'.ownBlock=v.ownBlock∨∀k,v'.ownBlock=some k→w.heap.size≤k):=by
 have h63:n+s.size≤maxLen:=by unfold maxLen;omega
 obtain⟨v',w',hr,ho,hg,_⟩:=Lib.run_append_own_string (P:=P) w 0 t u ty e i ht hu hi hz hsize hby v n xs hown s h63 hlen (Nat.zero_le _)
 refine⟨v',w',hr,ho,hg,?_⟩
 have hxl:xs.length=n:=by simpa using hown.1
 rcases hown.2 with⟨rfl,rfl⟩ |⟨g,cap,cur,rfl,hbg,hgg,hnc,hcm,hcs,htake⟩
 ·obtain⟨v2,w2,hr2,ho2,_,_⟩:=Lib.run_append_own_string (P:=P) w w.heap.size t u ty e i ht hu hi hz hsize hby (.slice none 0 0) 0 xs ⟨hown.1,.inl ⟨rfl,rfl⟩⟩ s h63 hlen (Nat.le_refl _)
  rw[hr] at hr2
  cases hr2
  exact .inr fun k hk=>(ho2.lt k hk).1
 ·have hcs':cur.size=cap:=by simpa using hcs
  by_cases hroom:n+s.size≤cap
  ·have hr2:=Lib.run_append_room_string (P:=P) w t u ty e i ht hu hi hsize g n cap cur hgg s hroom (by omega)
   rw[hr] at hr2
   cases hr2
   exact .inl rfl
  ·have holds:∀j u,xs[j]?=some u→w.cell? ((⟨g,0,none⟩:Addr).add j)=some u:=hown.cells (g:=g) rfl
   have hr2:=Lib.run_append_grow_string (P:=P) w t u ty e i (.int .u8 0) ht hu hi hz ⟨g,0,none⟩ n cap xs (by rw[hsize];simpa using hxl) holds s (by omega) (by omega) (by rw[hby];exact growslice_fits (by omega) (by omega))
   rw[hr] at hr2
   cases hr2
   exact .inr fun k hk=>by simp only[Value.ownBlock,Option.some.injEq] at hk;omega
theorem qzp {w:World} {ops:Array Oper} {rest:List Oper} {o:Oper} {a:Act} {Q:Exit→Act→World→Prop} (hgd:o.guard=none) (sl x:Operand) (t u:TypeId)
  (ho:o.op=.call {callee:=.builtin .append,args:=#[sl,x],argTypes:=#[t,u]})
  (e:TypeId) (i:TypeInfo) (ht:P.underlying t=some (.slice e)) (hu:P.underlying u=some .string) (hi:P.info? e=some i) (hz:i.zero=some (.int .u8 0))
  (hsize:i.size=1) (hby:i.bytes=1)
  (v:Value) (n:Nat) (xs:List Value) (hs:a.eval sl=v) (hown:w.ownsRow 0 e 1 v n xs) (s:ByteArray) (hx:a.eval x=.string s) (hlen:n+s.size≤140737488355328)
  (h:∀v' w',w'.ownsRow 0 e 1 v' (n+s.size) (xs++Lib.strCells s)→w.grownBy w' v.ownBlock→(v'.ownBlock=v.ownBlock∨∀k,v'.ownBlock=some k→w.heap.size≤k)→wpList P ops Q rest (a.put o.dst v') w'):wpList P ops Q (o::rest) a w:=by
 refine wpList_plain hgd fun K hK=>?_
 obtain⟨v',w',hr,h2,h3,h4⟩:=qFd (P:=P) w t u o.type e i ht hu hi hz hsize hby v n xs hown s hlen
 unfold Oper.wp execOp
 simp only[ho,resolve,invoke,builtin,Sem.run_bind,Sem.run_pure,Result.andThen_ok,List.map_toArray,List.map_cons,List.map_nil,hs,hx,hr]
 exact hK _ _ (h v' w' h2 h3 h4)
end
set_option maxRecDepth 100000 in
set_option maxHeartbeats 4000000 in
theorem qJV (b:Nat) (w:World) (h0:w.cell? ⟨b,0,none⟩=some (.pointer (some ⟨b,0,none⟩))) :
  Calls Tryz.prog 108 #[.pointer (some ⟨b,0,none⟩)] w fun e w'=>e=.returned (.tuple #[])∧w'=w:=by
 have hq:(binOp .neq 125 (.pointer (some ⟨b,0,none⟩)) (.pointer (some ⟨b,0,none⟩))).run Tryz.prog w=.ok (.bool false) w:=by
  obtain⟨j,hj,_⟩:=Option.map_eq_some_iff.1 (show(Tryz.prog.info? 127).map (fun i=>i.size)=some 2 by kernel_rfl)
  exact Lib.run_neq_ptr_same w ⟨b,0,none⟩ (show Tryz.prog.underlying 125=some (.pointer 127) by kernel_rfl) hj
 go_enter Tryz.func108,Tryz.ntmps108
 go_wp2
 go_end0
 exact⟨rfl,rfl⟩
set_option maxRecDepth 100000 in
set_option maxHeartbeats 4000000 in
theorem qIg (b:Nat) (w:World) (h0:w.cell? ⟨b,0,none⟩=some (.pointer none)) (hsh:w.shape? b=some (127,2)) (hfz:w.frozen? ⟨b,0,none⟩=false) :
  Calls Tryz.prog 108 #[.pointer (some ⟨b,0,none⟩)] w fun e w'=>e=.returned (.tuple #[])∧w'=w.setCell ⟨b,0,none⟩ (.pointer (some ⟨b,0,none⟩)):=by
 obtain⟨j,hj,hjs⟩:=Option.map_eq_some_iff.1 (show(Tryz.prog.info? 127).map (fun i=>i.size)=some 2 by kernel_rfl)
 have hu1:(convert 125 213 (.pointer (some ⟨b,0,none⟩))).run Tryz.prog w=.ok (.pointer (some ⟨b,0,none⟩)) w :=
  Lib.run_to_unsafe w ⟨b,0,none⟩ (show Tryz.prog.underlying 125=some (.pointer 127) by kernel_rfl) (show Tryz.prog.underlying 213=some .unsafePointer by kernel_rfl) hj (by rw[hjs];decide) hsh (Nat.zero_lt_succ 1)
 go_enter Tryz.func108,Tryz.ntmps108
 go_wp2
 rw[run_callFunc_extern Tryz.func132 (by kernel_rfl) (by kernel_rfl) (by kernel_rfl) (e:=Extern.AbiNoEscape.same) (by kernel_rfl)]
 rw[Lib.run_noEscape]
 simp only[Result.andThen]
 rw[Oper.upon_value]
 go_wp2
 rw[Lib.run_from_unsafe w ⟨b,0,none⟩ (show Tryz.prog.underlying 213=some .unsafePointer by kernel_rfl) (show Tryz.prog.underlying 125=some (.pointer 127) by kernel_rfl) hj hsh (by kernel_rfl)]
 simp only[Result.andThen]
 rw[Oper.upon_value]
 go_wp2
 go_end0
 exact⟨rfl,rfl⟩
theorem qu3 {w:World} {b:Nat} {c:Array Value} {T:TypeId} (h:w.heap[b]?=some (.cells c T (0,0))) (o:Nat) (v:Value):(w.setCell ⟨b,o,none⟩ v).heap[b]?=some (.cells (c.setIfInBounds o v) T (0,0)):=by
 simp[World.setCell,Array.getElem?_modify,h]
theorem qun (w:World) {b x:Nat} (hx:x≠b) (o:Nat) (v:Value):(w.setCell ⟨b,o,none⟩ v).heap[x]?=w.heap[x]?:=by
 simp[World.setCell,Array.getElem?_modify,Ne.symm hx]
theorem qvG (w:World) (a:Addr) (v:Value):(w.setCell a v).heap.size=w.heap.size:=by
 simp[World.setCell]
theorem qL1 (b:Nat) (p v:Value) (w:World) (hb:w.heap[b]?=some (.cells #[p,v] 127 (0,0))) (hp:p=.pointer none∨p=.pointer (some ⟨b,0,none⟩)) :
  Calls Tryz.prog 108 #[.pointer (some ⟨b,0,none⟩)] w fun e w'=>e=.returned (.tuple #[])∧w'.heap[b]?=some (.cells #[.pointer (some ⟨b,0,none⟩),v] 127 (0,0)) ∧
   (∀x,x≠b→w'.heap[x]?=w.heap[x]?)∧w'.heap.size=w.heap.size∧w'.os=w.os∧w'.tape=w.tape∧w'.output=w.output:=by
 rcases hp with rfl |rfl
 ·refine(qIg b w (by simp[World.cell?,hb]) (by simp[World.shape?,hb]) (by simp[World.frozen?,hb])).mono ?_
  rintro e w' ⟨rfl,rfl⟩
  refine⟨rfl,?_,fun x hx=>qun w hx _ _,qvG _ _ _,rfl,rfl,rfl⟩
  rw[qu3 hb]
  rfl
 ·refine(qJV b w (by simp[World.cell?,hb])).mono ?_
  rintro e w' ⟨rfl,rfl⟩
  exact⟨rfl,hb,fun _ _=>rfl,rfl,rfl,rfl,rfl⟩
set_option maxRecDepth 100000 in
set_option maxHeartbeats 4000000 in
theorem qLW (b:Nat) (p v:Value) (xs:List Value) (s:ByteArray) (w:World) (hb:w.heap[b]?=some (.cells #[p,v] 127 (0,0))) (hp:p=.pointer none∨p=.pointer (some ⟨b,0,none⟩))
  (hown:w.ownsRow 0 5 1 v xs.length xs) (hne:v.ownBlock≠some b) (hlen:xs.length+s.size≤140737488355328) :
  Calls Tryz.prog 70 #[.pointer (some ⟨b,0,none⟩),.string s] w fun e w'=>(∃r,e=.returned r)∧∃(v':Value) (w1 w2:World),w'.heap[b]?=some (.cells #[.pointer (some ⟨b,0,none⟩),v'] 127 (0,0)) ∧
   w2.ownsRow 0 5 1 v' (xs.length+s.size) (xs++Lib.strCells s)∧(∀x,x≠b→w'.heap[x]?=w2.heap[x]?)∧w'.heap.size=w2.heap.size∧w'.os=w2.os∧w'.tape=w2.tape∧w'.output=w2.output ∧
   w1.grownBy w2 v.ownBlock∧(∀x,x≠b→w1.heap[x]?=w.heap[x]?)∧w1.heap.size=w.heap.size∧w1.os=w.os∧w1.tape=w.tape∧w1.output=w.output∧(v'.ownBlock=v.ownBlock∨∀k,v'.ownBlock=some k→w.heap.size≤k):=by
 obtain⟨i0,hi,hz0,hz1,hz2⟩:=info_parts (show(Tryz.prog.info? 5).map (fun i=>(i.zero,i.size,i.bytes))=some (some (.int .u8 0),1,1) by kernel_rfl)
 go_enter Tryz.func70,Tryz.ntmps70
 go_wp2_with (go_at_call 108;refine(qL1 b p v _ hb hp).mono ?_)
 rintro e w1 ⟨rfl,hbk,hoth,hsz,hos,htp,hout⟩
 have hown1:w1.ownsRow 0 5 1 v xs.length xs:=by
  refine⟨hown.1,?_⟩
  rcases hown.2 with h |⟨g,cap,cur,hv,hg,hc,r⟩
  ·exact .inl h
  ·exact .inr ⟨g,cap,cur,hv,hg,(hoth g (fun e=>hne (by rw[hv,e];rfl))).trans hc,r⟩
 have hlt:b<w1.heap.size:=by
  rcases Nat.lt_or_ge b w1.heap.size with h' |h'
  ·exact h'
  ·simp[Array.getElem?_eq_none h'] at hbk
 have c0:w1.cell? ⟨b,0,none⟩=some (.pointer (some ⟨b,0,none⟩)):=by rw[Lib.cell_of_heap hbk];rfl
 have c1:w1.cell? ⟨b,1,none⟩=some v:=by rw[Lib.cell_of_heap hbk];rfl
 go_wp2_with (at_builtin;refine qzp rfl _ _ 112 9 rfl 5 i0 (show Tryz.prog.underlying 112=some (.slice 5) by kernel_rfl) (show Tryz.prog.underlying 9=some .string by kernel_rfl) hi hz0 hz1 hz2 _ _ _ rfl hown1 s rfl hlen ?_)
 intro v' w2 hown' hgrow hnew
 have hb2:w2.heap[b]?=some (.cells #[.pointer (some ⟨b,0,none⟩),v] 127 (0,0)):=by
  rw[hgrow.block b hlt (fun e=>hne e.symm)]
  exact hbk
 have d0:w2.cell? ⟨b,0,none⟩=some (.pointer (some ⟨b,0,none⟩)):=by rw[Lib.cell_of_heap hb2];rfl
 have d1:w2.cell? ⟨b,1,none⟩=some v:=by rw[Lib.cell_of_heap hb2];rfl
 have f1:w2.frozen? ⟨b,1,none⟩=false:=Lib.frozen_of_heap hb2 1
 obtain⟨ao,n',cap,rfl⟩:∃ao n' cap,v'=.slice ao n' cap:=by
  rcases hown'.2 with⟨hv,_⟩ |⟨g,cap,cur,hv,_⟩
  ·exact⟨_,_,_,hv⟩
  ·exact⟨_,_,_,hv⟩
 go_wp2
 go_ret2
 refine⟨⟨_,rfl⟩,.slice ao n' cap,w1,w2,?_,hown',fun x hx=>qun w2 hx _ _,qvG _ _ _,rfl,rfl,rfl,hgrow,hoth,hsz,hos,htp,hout,hnew⟩
 rw[qu3 hb2]
 rfl
theorem qud (w:World) (row:Option Nat):w.grownBy w.drew row:=⟨rfl,rfl,rfl,Nat.le_refl _,fun _ _ _=>rfl⟩
theorem qBQ {w a:World} {g:Nat} (h:a.grownBy w (some g)) (n:Nat):a.grownBy (w.freeze ⟨g,0,none⟩ n) (some g):=by
 unfold World.freeze
 split
 ·exact h
 ·refine⟨h.os,h.tape,h.output,by simpa using h.size,fun k hk hne=>?_⟩
  simp only[Array.getElem?_modify]
  rw[if_neg (fun e=>hne (by rw[←e]))]
  exact h.block k hk hne
set_option maxRecDepth 100000 in
set_option maxHeartbeats 4000000 in
theorem qId (b:Nat) (p v:Value) (l:List UInt8) (w:World) (hb:w.heap[b]?=some (.cells #[p,v] 127 (0,0)))
  (hown:w.ownsRow 0 5 1 v l.length (l.map fun x=>Value.int .u8 x.toNat)) :
  Calls Tryz.prog 71 #[.pointer (some ⟨b,0,none⟩)] w fun e w'=>e=.returned (.string ⟨l.toArray⟩)∧w.grownBy w' v.ownBlock:=by
 have hUS0:∀(W:World) q,(Builtin.unsafeString_ #[176,3] 9 #[.pointer q,.int .i64 0]).run Tryz.prog W=.ok (.string .empty) W:=fun W q=>Lib.run_unsafeString_none W _ _ _ q
 have c1:w.drew.cell? ⟨b,1,none⟩=some v:=by
  have:w.drew.heap[b]?=some (.cells #[p,v] 127 (0,0)):=hb
  rw[Lib.cell_of_heap this];rfl
 rcases hown.2 with⟨rfl,hz⟩ |⟨g,cap,cur,rfl,hbg,hg,hnc,hcm,hcs,htake⟩
 ·have:l=[]:=List.eq_nil_of_length_eq_zero hz
  subst this
  have hSD:(Builtin.unsafeSliceData_ #[112] 176 #[.slice none 0 0]).run Tryz.prog w.drew=.ok (.pointer none) w.drew:=rfl
  go_enter Tryz.func71,Tryz.ntmps71
  go_wp2
  go_region
  all_goals (go_wp2;go_ret;exact⟨rfl,qud w _⟩)
 ·have hbw:w.drew.heap[b]?=some (.cells #[p,.slice (some ⟨g,0,none⟩) l.length cap] 127 (0,0)):=hb
  by_cases h0:l=[]
  ·subst h0
   by_cases hc:cap=0
   ·subst hc
    have hlt:b<w.heap.size:=by
     rcases Nat.lt_or_ge b w.heap.size with h' |h'
     ·exact h'
     ·simp[Array.getElem?_eq_none h'] at hb
    have hg':w.drew.heap[g]?=some (.cells cur 5 (0,0)):=hg
    have hSD:(Builtin.unsafeSliceData_ #[112] 176 #[.slice (some ⟨g,0,none⟩) 0 0]).run Tryz.prog w.drew=.ok (.pointer (some ⟨w.drew.heap.size,0,none⟩)) (w.drew.alloc (.view ⟨g,0,none⟩ 5)) :=
     Lib.run_unsafeSliceData_zero w.drew _ _ 5 (show Tryz.prog.underlying 176=some (.pointer 5) by kernel_rfl) ⟨g,0,none⟩ 0 (5,cur.size) (by simp[World.shape?,hg'])
    have c2:(w.drew.alloc (.view ⟨g,0,none⟩ 5)).cell? ⟨b,1,none⟩=some (.slice (some ⟨g,0,none⟩) 0 0):=by
     have:(w.drew.alloc (.view ⟨g,0,none⟩ 5)).heap[b]?=_:=(Lib.alloc_old w.drew _ b hlt).trans hbw
     rw[Lib.cell_of_heap this];rfl
    have c3:(w.alloc (.view ⟨g,0,none⟩ 5)).drew.cell? ⟨b,1,none⟩=some (.slice (some ⟨g,0,none⟩) 0 0):=c2
    have c0:w.cell? ⟨b,1,none⟩=some (.slice (some ⟨g,0,none⟩) 0 0):=c1
    go_enter Tryz.func71,Tryz.ntmps71
    go_wp2
    go_region
    all_goals (go_wp2;go_ret;exact⟨rfl,rfl,rfl,rfl,(World.grownBy_alloc w.drew _ none).size,fun k hk _=>(World.grownBy_alloc w.drew _ none).block k hk (by simp)⟩)
   ·have hSD:(Builtin.unsafeSliceData_ #[112] 176 #[.slice (some ⟨g,0,none⟩) 0 cap]).run Tryz.prog w.drew=.ok (.pointer (some ⟨g,0,none⟩)) w.drew :=
     Lib.run_unsafeSliceData_row _ _ _ _ _ _ hc
    clear hc
    go_enter Tryz.func71,Tryz.ntmps71
    go_wp2
    go_region
    all_goals (go_wp2;go_ret;exact⟨rfl,qud w _⟩)
  ·have hl0:l.length≠0:=by simpa using h0
   have hSD:(Builtin.unsafeSliceData_ #[112] 176 #[.slice (some ⟨g,0,none⟩) l.length cap]).run Tryz.prog w.drew=.ok (.pointer (some ⟨g,0,none⟩)) w.drew :=
    Lib.run_unsafeSliceData_row _ _ _ _ _ _ (by omega)
   have hUS:(Builtin.unsafeString_ #[176,3] 9 #[.pointer (some ⟨g,0,none⟩),.int .i64 l.length]).run Tryz.prog w.drew=.ok (.string ⟨l.toArray⟩) (w.drew.freeze ⟨g,0,none⟩ l.length):=by
    refine Lib.run_unsafeString_row w.drew 176 3 9 5 (show Tryz.prog.underlying 176=some (.pointer 5) by kernel_rfl) (show Tryz.prog.cellsOf 5=1 by kernel_rfl) g cur.size (by have hg':w.drew.heap[g]?=some (.cells cur 5 (0,0)):=hg;simp[World.shape?,hg']) l h0 (by omega) (by unfold maxLen at hcm;omega) ?_
    intro j x hx
    have:=hown.cells (g:=g) rfl j (.int .u8 x.toNat) (by simp[hx])
    exact this
   clear hUS0
   go_enter Tryz.func71,Tryz.ntmps71
   go_wp2
   go_region
   all_goals (go_wp2;go_ret;exact⟨rfl,qBQ (qud w _) _⟩)
theorem qGF {w:World} {K:Kinds} {y:qtW.den} (hh:qdk w K (enum 0 (qe9 [qtW] y))) {b:Nat} (hb:b<w.heap.size) (hk:K b=.box 0) :
  ∃p v,w.heap[b]?=some (.cells #[p,v] 127 (0,0))∧(p=.pointer none∨p=.pointer (some ⟨b,0,none⟩))∧w.ownsRow 0 5 1 v (List.length y.2.1) (List.map (fun x:UInt8=>Value.int .u8 x.toNat) y.2.1) ∧
   (∀g,v.ownBlock=some g→K g=.row 0 0∧g<w.heap.size)∧∃A n c,v=.slice A n c:=by
 obtain⟨av,o,h1,h2,h3⟩:=hh.cells b 0 hb hk
 have e1:av=⟨qtW,y⟩:=by
  have:some (⟨qtW,y⟩:AV)=some av:=h1
  cases this
  rfl
 subst e1
 obtain⟨cs,rfl,c1,c2,hcs,⟨q,hq,hq'⟩,c3,c4,hc34,⟨A,n,cap,hA,hA'⟩,h5⟩:=h3
 have h5':c4=[]:=h5
 subst h5' hA hc34 hq
 have hcs':cs=#[.pointer q,.slice A n cap]:=by
  apply Array.ext'
  rw[hcs]
  rfl
 subst hcs'
 refine⟨_,_,h2,?_,?_,?_,_,_,_,rfl⟩
 ·rcases hq' with rfl |⟨b',rfl,hb1,hb2⟩
  ·exact .inl rfl
  ·rw[hh.uniq b' b 0 hb2 hb hb1 hk]
   exact .inr rfl
 ·rcases hA' with⟨rfl,rfl,rfl,hx⟩ |⟨g,cur,rfl,hg1,hg2,hg3,hg4,hg5,hg6,hg7⟩
  ·rw[hx]
   exact⟨rfl,.inl ⟨rfl,rfl⟩⟩
  ·subst hg3
   exact⟨by simp,.inr ⟨g,cap,cur,rfl,Nat.zero_le _,hg2,hg4,hg5,by rw[hg6,Nat.mul_one],by rw[Nat.mul_one];exact hg7⟩⟩
 ·intro g hg
  rcases hA' with⟨rfl,_⟩ |⟨g',cur,rfl,hg1,hg2,_⟩
  ·cases hg
  ·simp only[Value.ownBlock,Option.some.injEq] at hg
   subst hg
   exact⟨hg1,(Array.getElem?_eq_some_iff.1 hg2).1⟩
def qsN (w:World) (K:Kinds) (v:Value):Kinds:=fun k=>if k<w.heap.size then K k else if v.ownBlock=some k then .row 0 0 else .old
theorem qoV {w:World} {K:Kinds} {v:Value} {k:Nat} (h:k<w.heap.size):qsN w K v k=K k:=if_pos h
theorem qwT {w:World} {K:Kinds} {v:Value} {k id:Nat} (h:qsN w K v k=.box id):k<w.heap.size∧K k=.box id:=by
 unfold qsN at h
 split at h
 ·exact⟨by assumption,h⟩
 ·split at h<;>cases h
theorem qGA {w w':World} {K:Kinds} {b:Nat} {v u:Value} {cs cs':Array Value} {T:TypeId} (os:w'.os=w.os) (tape:w'.tape=w.tape) (output:w'.output=w.output) (size:w.heap.size≤w'.heap.size)
  (hkb:K b=.box 0) (hv:∀g,v.ownBlock=some g→K g=.row 0 0) (hb:w.heap[b]?=some (.cells cs T (0,0))) (hb':w'.heap[b]?=some (.cells cs' T (0,0))) (hsz:cs.size≤cs'.size)
  (hoth:∀k,k<w.heap.size→k≠b→some k≠v.ownBlock→w'.heap[k]?=w.heap[k]?):Ext w K w' (qsN w K u) where
 os:=os
 tape:=tape
 output:=output
 size:=size
 fix:=fun k hk hf=>⟨qoV hk,hoth k hk (fun e=>by rw[e,hkb] at hf;cases hf) (fun e=>by rw[hv k e.symm] at hf;cases hf)⟩
 stab:=fun k o hk hs=>by
  refine⟨by unfold qcY at *;rw[qoV hk];exact hs,World.cell?_of_block (hoth k hk (fun e=>?_) (fun e=>?_))⟩
  ·unfold qcY at hs
   rw[e,hkb] at hs
   exact hs.elim
  ·unfold qcY at hs
   rw[hv k e.symm] at hs
   exact absurd hs (Nat.not_lt_zero _)
 box:=fun k id hk h=>by rw[qoV hk];exact h
 bsz:=fun k id n hk h hn=>by
  by_cases e:k=b
  ·subst e
   obtain⟨c,T',h1,h2⟩:=hn
   rw[hb] at h1
   cases h1
   exact⟨_,_,hb',Nat.le_trans h2 hsz⟩
  ·obtain⟨c,T',h1,h2⟩:=hn
   exact⟨c,T',(hoth k hk e (fun e=>by rw[hv k e.symm] at h;cases h)).trans h1,h2⟩
theorem qDH {w':World} {w:World} {K:Kinds} {s:Sh} {y:s.den} {s':Sh} {x':s'.den} {b:Nat} {u:Value} {o:Obj} (hh:qdk w K (enum 0 (qe9 [s] y))) (hb:b<w.heap.size) (hkb:K b=.box 0) (hb':w'.heap[b]?=some o) (ho:qbA w' (qsN w K u) s' x' o) :
  qdk w' (qsN w K u) (enum 0 (qe9 [s'] x')) where
 cells:=fun k id hk h=>by
  obtain⟨h1,h2⟩:=qwT h
  obtain⟨av,o',l1,_⟩:=hh.cells k id h1 h2
  have hid:id<0+1:=qru [⟨s,y⟩] 0 id av l1
  have:id=0:=by omega
  subst this
  have:=hh.uniq k b 0 h1 hb h2 hkb
  subst this
  exact⟨⟨s',x'⟩,o,rfl,hb',ho⟩
 uniq:=fun k k' id hk hk' h h'=>by
  obtain⟨h1,h2⟩:=qwT h
  obtain⟨h3,h4⟩:=qwT h'
  exact hh.uniq k k' id h1 h3 h2 h4
theorem qHU:qms Tryz.prog 70 qni:=by
 intro args h0 nx Kc r hrun w K vs hvs hh Rf hk _
 simp only[qni,qf5] at hrun
 split at hrun
 ·rename_i x y hx hy
  cases hG:qfj y.2.1 x.2 with
  |false=>rw[hG] at hrun;cases hrun
  |true =>
   rw[hG] at hrun
   simp only[cond_true] at hrun
   have hho:=hh.to hy
   have hrv:=qsh _ args x vs hx hvs
   match vs,hrv with
   |v1::v2::vr,hrv =>
   obtain⟨r1,r2,r3⟩:=hrv
   have hvr:vr=[]:=by
    cases vr with
    |nil=>rfl
    |cons _ _=>exact r3.elim
   subst hvr
   obtain⟨b,rfl,hkb,hb⟩:=RV.box r1
   have e2:=RV.str r2
   subst e2
   obtain⟨p,v,hbk,hp,hown,hrow,A,n,c,hvA⟩:=qGF hho hb hkb
   have hne:v.ownBlock≠some b:=fun e=>by have:=(hrow b e).1;rw[hkb] at this;cases this
   have hlen:(List.map (fun x:UInt8=>Value.int .u8 x.toNat) y.2.1).length+(⟨⟨x.2⟩⟩:ByteArray).size≤140737488355328:=by
    have:=Nat.le_of_ble_eq_true (show Nat.ble (List.length y.2.1+List.length x.2) 140737488355328=true from hG)
    simpa [ByteArray.size] using this
   refine(qLW b p v (List.map (fun x:UInt8=>Value.int .u8 x.toNat) y.2.1) ⟨⟨x.2⟩⟩ w hbk hp (by rw[List.length_map];exact hown) hne hlen).mono ?_
   rintro e w' ⟨⟨rr,rfl⟩,v',w1,w2,hb',hown',hoth2,hsz2,hos2,htp2,hout2,hgrow,hoth1,hsz1,hos1,htp1,hout1,hnew⟩
   have hrow':∀g,v'.ownBlock=some g→qsN w K v' g=.row 0 0∧g≠b:=fun g hg=>by
    rcases hnew with e |e
    ·obtain⟨h1,h2⟩:=hrow g (by rw[←e];exact hg)
     exact⟨(qoV h2).trans h1,fun e=>by rw[e,hkb] at h1;cases h1⟩
    ·have:=e g hg
     refine⟨?_,by omega⟩
     unfold qsN
     rw[if_neg (by omega),if_pos hg]
   refine hk ⟨.top,()⟩ rr _ _ w' (qsN w K v') (qGA (by rw[hos2,hgrow.os,hos1]) (by rw[htp2,hgrow.tape,htp1]) (by rw[hout2,hgrow.output,hout1]) (by rw[hsz2,←hsz1];exact hgrow.size) hkb (fun g hg=>(hrow g hg).1) hbk hb' (Nat.le_refl _) (fun k hk hkb hkv=>?_)) trivial
    (qDH hho hb hkb hb' ?_) hrun
   ·rw[hoth2 k hkb,hgrow.block k (by rw[hsz1];exact hk) hkv,hoth1 k hkb]
   ·refine⟨_,rfl,[_],[_],rfl,⟨_,rfl,.inr ⟨b,rfl,(qoV hb).trans hkb,by rw[hsz2];exact Nat.lt_of_lt_of_le (by rw[hsz1];exact hb) hgrow.size⟩⟩,[_],[],rfl,?_,rfl⟩
    have hm:List.map (fun x:UInt8=>Value.int .u8 x.toNat) y.2.1++Lib.strCells ⟨⟨x.2⟩⟩=List.map (fun x:UInt8=>Value.int .u8 x.toNat) (y.2.1++x.2):=by
     simp[Lib.strCells]
    rw[hm,List.length_map] at hown'
    have hl:List.length y.2.1+(⟨⟨x.2⟩⟩:ByteArray).size=List.length (y.2.1++x.2):=by simp[ByteArray.size]
    rw[hl] at hown'
    rcases hown'.2 with⟨rfl,hz⟩ |⟨g,cap,cur,rfl,_,hg,hnc,hcm,hcs,htake⟩
    ·exact⟨_,_,_,rfl,.inl ⟨rfl,rfl,rfl,List.eq_nil_of_length_eq_zero hz⟩⟩
    ·obtain⟨q1,q2⟩:=hrow' g rfl
     exact⟨_,_,_,rfl,.inr ⟨g,cur,rfl,q1,(hoth2 g q2).trans hg,rfl,hnc,hcm,by simpa using hcs,by simpa [qhz] using htake⟩⟩
 ·cases hrun
theorem qEo:qms Tryz.prog 71 qsC:=by
 intro args h0 nx Kc r hrun w K vs hvs hh Rf hk _
 simp only[qsC,qf5] at hrun
 split at hrun
 ·rename_i x y hx hy
  simp only[cond_true] at hrun
  have hho:=hh.to hy
  have hrv:=qsh _ args x vs hx hvs
  match vs,hrv with
  |v1::vr,hrv =>
  obtain⟨r1,r3⟩:=hrv
  have hvr:vr=[]:=by
   cases vr with
   |nil=>rfl
   |cons _ _=>exact r3.elim
  subst hvr
  obtain⟨b,rfl,hkb,hb⟩:=RV.box r1
  obtain⟨p,v,hbk,hp,hown,hrow,A,n,c,hvA⟩:=qGF hho hb hkb
  have hne:some b≠v.ownBlock:=fun e=>by have:=(hrow b e.symm).1;rw[hkb] at this;cases this
  refine(qId b p v y.2.1 w hbk hown).mono ?_
  rintro e w' ⟨rfl,hgrow⟩
  have hb':w'.heap[b]?=_:=(hgrow.block b hb hne).trans hbk
  refine hk ⟨.ty .str,y.2.1⟩ _ _ _ w' (qsN w K (.bool true)) (qGA hgrow.os hgrow.tape hgrow.output hgrow.size hkb (fun g hg=>(hrow g hg).1) hbk hb' (Nat.le_refl _) (fun k hk _ hkv=>hgrow.block k hk hkv)) ⟨rfl,⟨(fun h=>by cases h),(fun _ c h=>by cases h)⟩⟩
   (qDH hho hb hkb hb' ?_) hrun
  subst hvA
  rcases hp with rfl |rfl
  ·exact⟨_,rfl,[_],[_],rfl,⟨_,rfl,.inl rfl⟩,[_],[],rfl,⟨_,rfl,rfl⟩,rfl⟩
  ·exact⟨_,rfl,[_],[_],rfl,⟨_,rfl,.inr ⟨b,rfl,(qoV hb).trans hkb,Nat.lt_of_lt_of_le hb hgrow.size⟩⟩,[_],[],rfl,⟨_,rfl,rfl⟩,rfl⟩
 ·cases hrun
end Go.Proofs.YtealbjacocgjcaaGreat
end
section
namespace Go.Proofs.YtealbjacocgjcaaGreat
open Go Go.RowKit Go.Av Go.Proofs
set_option maxRecDepth 100000 in
set_option maxHeartbeats 4000000 in
theorem qHt (b mb g g2 n cap n2 cap2 o o2:Nat) (i j lab x y:Int) (w:World)
  (c0:w.cell? ⟨b,0,none⟩=some (.slice (some ⟨g,o,none⟩) n cap)) (c2:w.cell? ⟨b,2,none⟩=some (.map (some mb)))
  (ci:w.cell? ⟨g,o+i.toNat*10+1,none⟩=some (.int .i64 lab)) (hi:0≤i∧i<(n:Int))
  (hl:∀m:Nat,(Instr.lookup 118 (.map (some mb)) (.int .i64 lab) false).run Tryz.prog (w.drewN m)=.ok (.int .i64 j) (w.drewN m))
  (hj:0≤j∧j<(n2:Int)) (hi2:0≤i∧i<(n2:Int)) (cj:w.cell? ⟨g2,o2+j.toNat,none⟩=some (.int .i64 x)) (ck:w.cell? ⟨g2,o2+i.toNat,none⟩=some (.int .i64 y)) :
  Calls Tryz.prog 68 #[.pointer (some ⟨b,0,none⟩),.slice (some ⟨g2,o2,none⟩) n2 cap2,.int .i64 i] w fun e w'=>e=.returned (.int .i64 (wrap64 (wrap64 (x-y)-4)))∧∃m,w'=w.drewN m:=by
 go_enter Tryz.func68,Tryz.ntmps68
 go_wp2
 go_quiet (fail)
 go_wp2
 go_ret
 exact⟨rfl,_,rfl⟩
theorem qMz (w:World) (K:Kinds) (m:Nat):Ext w K (w.drewN m) K :=
 ⟨rfl,rfl,rfl,Nat.le_refl _,fun _ _ _=>⟨rfl,rfl⟩,fun _ _ _ h=>⟨h,rfl⟩,fun _ _ _ h=>h,fun _ _ _ _ _ h=>h⟩
theorem qDm {w:World} {K:Kinds}:∀(it:List qk.den) (cc:List Value) (i:Nat),RL (RT w K qk) it cc→i<it.length→cc[i*10+1]?=some (.int .i64 (it.getD i (Ty.dflt qk)).2.1)
 |[],_,_,_,h=>absurd h (Nat.not_lt_zero _)
 |x::it,_,0,⟨_,_,rfl,h1,_⟩,_=>by
  obtain⟨d1,d2,rfl,e1,e2⟩:=h1
  obtain⟨d3,d4,rfl,e3,_⟩:=e2
  have e1':d1=[.int .i64 x.1]:=e1
  have e3':d3=[.int .i64 x.2.1]:=e3
  subst e1' e3'
  rfl
 |x::it,_,i+1,⟨c1,c2,rfl,h1,h2⟩,h=>by
  have hl:c1.length=10:=RT.length qk x c1 h1
  have:=qDm it c2 i h2 (by simpa using h)
  rw[show(i+1)*10+1=10+(i*10+1) by omega,List.getElem?_append_right (by omega),hl,show 10+(i*10+1)-10=i*10+1 by omega,this]
  rfl
theorem qCf {w:World} {K:Kinds}:∀(l:List Int) (cc:List Value) (i:Nat),RL (RT w K (.int .i64)) l cc→i<l.length→cc[i]?=some (.int .i64 (l.getD i 0))
 |[],_,_,_,h=>absurd h (Nat.not_lt_zero _)
 |x::l,_,0,⟨_,_,rfl,h1,_⟩,_=>by
  rw[show _=[Value.int .i64 x] from h1]
  rfl
 |x::l,_,i+1,⟨c1,c2,rfl,h1,h2⟩,h=>by
  have e:c1=[Value.int .i64 x]:=h1
  subst e
  exact qCf l c2 i h2 (by simpa using h)
theorem qqq {i:Int} {n:Nat} (h:inRange i n=true):0≤i∧i<(n:Int):=by
 unfold inRange at h
 simpa using h
theorem qBI:qlP Tryz.prog 68 qdO:=by
 intro args v h w K vs hvs _
 unfold qdO at h
 split at h
 ·match vs,hvs with
  |u::vs,hvs =>
   obtain⟨ts,_,ht⟩:=hvs.1
   exact ht.elim
 ·cases h
theorem qEP:qrx Tryz.prog 68 qdO:=by
 intro sl en rest v h w K p vs hat hvs hfix
 unfold qdO at h
 split at h
 ·rename_i l a0 e it en' at_ i heq
  simp only[List.cons.injEq] at heq
  obtain⟨_,rfl,rfl,rfl⟩:=heq
  split at h
  ·rename_i he _
   subst he
   simp only[Option.some.injEq,Prod.mk.injEq] at h
   obtain⟨hg,rfl⟩:=h
   obtain⟨b,cs,T,c0,c1,mb,cr,ob,rfl,hb,hcs,h0,hm,hmo⟩:=hat
   match vs,hvs with
   |va::vi::vr,hvs =>
   obtain⟨hva,hvi,hvr⟩:=hvs
   have hvr':vr=[]:=by
    cases vr with
    |nil=>rfl
    |cons _ _=>exact hvr.elim
   subst hvr'
   have evi:vi=.int .i64 i:=RV.int hvi
   subst evi
   obtain⟨A2,len2,cap2,rfl,A3,qQZ,cap3,e3,x1,x2,x3,x4⟩:=RV.sl hva
   simp only[List.cons.injEq,and_true,Value.slice.injEq] at e3
   obtain⟨rfl,rfl,rfl⟩:=e3
   obtain⟨A,len,cap,hc0,y1,y2,y3,y4⟩:=h0
   simp only[List.cons.injEq,and_true] at hc0
   subst hc0
   obtain⟨es,mc,rfl,hmis⟩:=hmo
   unfold qeW at hg
   simp only[Bool.and_eq_true] at hg
   obtain⟨g1,g2,g3⟩:=hg
   have i1:=qqq g1
   have i2:=qqq g2
   have i3:=qqq g3
   have hlen:0<len:=by
    have:(0:Int)<(List.length it:Int):=by omega
    have e1:len=List.length it:=y1
    omega
   have hlen2:0<len2:=by
    have:(0:Int)<(List.length at_:Int):=by omega
    have e1:len2=List.length at_:=x1
    omega
   obtain⟨a,rfl⟩:∃a,A=some a:=by
    cases A with
    |none=>have:=y3 rfl;omega
    |some a=>exact⟨a,rfl⟩
   obtain⟨a2,rfl⟩:∃a,A2=some a:=by
    cases A2 with
    |none=>have:=x3 rfl;omega
    |some a=>exact⟨a,rfl⟩
   obtain⟨cc,q1,q2⟩:=y4 a rfl
   obtain⟨cc2,p1,p2⟩:=x4 a2 rfl
   have t1:=qDm it cc i.toNat q1 (by omega)
   have t2:=qCf at_ cc2 (qsK en' (it.getD i.toNat (Ty.dflt qk)).2.1).toNat p1 (by omega)
   have t3:=qCf at_ cc2 i.toNat p1 (by omega)
   obtain⟨s1,s2,_⟩:=q2 _ _ t1
   obtain⟨s3,s4,_⟩:=p2 _ _ t2
   obtain⟨_,s5,_⟩:=p2 _ _ t3
   obtain⟨ab,ao,asp⟩:=a
   obtain⟨ab2,ao2,asp2⟩:=a2
   have s1':asp=none:=s1
   have s3':asp2=none:=s3
   subst s1' s3'
   have hcell:∀k,w.cell? ⟨b,k,none⟩=cs[k]?:=fun k=>by
    simp[World.cell?,hb]
   have hk:∀k:Nat,cs[k]?=cs.toList[k]?:=fun k=>by simp
   have hml:∀m:Nat,(Instr.lookup 118 (.map (some mb)) (.int .i64 (it.getD i.toNat (Ty.dflt qk)).2.1) false).run Tryz.prog (w.drewN m)=.ok (.int .i64 (qsK en' (it.getD i.toNat (Ty.dflt qk)).2.1)) (w.drewN m):=fun m =>
    qxK (w:=w.drewN m) (t:=118) (by kernel_rfl) hm hmis _ false
   refine(qHt b mb ab ab2 len cap len2 cap2 ao ao2 i _ _ _ _ w (by rw[hcell,hk,hcs];rfl) (by rw[hcell,hk,hcs];rfl) s2 ⟨i1.1,by rw[y1];exact i1.2⟩ hml ⟨i2.1,by rw[x1];exact i2.2⟩ ⟨i3.1,by rw[x1];exact i3.2⟩ s4 s5).mono ?_
   rintro e w' ⟨rfl,m,rfl⟩
   refine⟨_,K,rfl,qMz w K m,fun b' id hb' hk'=>?_,RV.scalar (av:=.int .i64 _) ?_ rfl rfl⟩
   rotate_left
   ·show[Value.int .i64 _]=[Value.int .i64 _]
    unfold qbu
    simp only[IntKind.wrap_i64,wrap64]
   have:=hfix b' hb'
   rw[hk'] at this
   cases this
  ·cases h
 ·cases h
end Go.Proofs.YtealbjacocgjcaaGreat
end
section
namespace Go.Proofs.YtealbjacocgjcaaGreat
open Go Go.Av Go.Proofs
noncomputable def qNV:Ctx:=qH7 Tryz.prog [31,33,57,23,95,50,193,90,81,44,41,184]
theorem qIo:Av.Good qNV:=qLT (by kernel_rfl) (by kernel_rfl) (by kernel_rfl)
noncomputable def qNU:Ctx:=qNV.addPlain 127 (qy qjC qo3 ql2 qb3)
theorem qH1:Av.Good qNU:=qIo.fnP ql2 qdC qo3 qb3 2 8 (by kernel_rfl) (fun x=>by kernel_rfl) qx5
noncomputable def qNK:Ctx:=qNU.addPlain 128 (qy qkv qqg qm0 qcu)
theorem qIi:Av.Good qNK:=qH1.fnP qm0 qfk qqg qcu 2 8 (by kernel_rfl) (fun x=>by kernel_rfl) qzv
noncomputable def qN2:Ctx:=qNK.addPlain 126 (qy qjA qo5 qlR qbc)
theorem qIu:Av.Good qN2:=qIi.fnP qlR qcc qo5 qbc 2 8 (by kernel_rfl) (fun x=>by kernel_rfl) qys
noncomputable def qNQ:Ctx:=qN2.addPlain 102 (qy qkc qqw qmE qbP)
theorem qHR:Av.Good qNQ:=qIu.fnP qmE qf3 qqw qbP 3 8 (by kernel_rfl) (fun x=>by kernel_rfl) qzV
noncomputable def qN4:Ctx:=qNQ.addPlain 125 (qy qjh qoZ qlT qft)
theorem qHv:Av.Good qN4:=qHR.fnP qlT qfw qoZ qft 3 8 (by kernel_rfl) (fun x=>by kernel_rfl) qyh
noncomputable def qNZ:Ctx:=qN4.addPlain 105 (qy qko qqA qmN qf)
theorem qH9:Av.Good qNZ:=qHv.fnP qmN qb5 qqA qf 3 8 (by kernel_rfl) (fun x=>by kernel_rfl) qzj
noncomputable def qN5:Ctx:=qNZ.addPlain 143 (qy qmo qT qpM qg)
theorem qHX:Av.Good qN5:=qH9.fnP qpM qhC qT qg 2 6 (by kernel_rfl) (fun x=>by kernel_rfl) qC6
noncomputable def qNP:Ctx:=qN5.addPlain 130 (qy qih qcG qkT qca)
theorem qIC:Av.Good qNP:=qHX.fnP qkT qv qcG qca 4 8 (by kernel_rfl) (fun x=>by kernel_rfl) qxd
noncomputable def qN1:Ctx:=qNP.addPlain 129 (qy qlG qla qoM qlm)
theorem qHC:Av.Good qN1:=qIC.fnP qoM qd9 qla qlm 4 8 (by kernel_rfl) (fun x=>by kernel_rfl) qA3
noncomputable def qLp:Ctx:=qN1.addPlain 144 (qy qkr qf0 qm7 qfY)
theorem qEH:Av.Good qLp:=qHC.fnP qm7 qbJ qf0 qfY 4 8 (by kernel_rfl) (fun x=>by kernel_rfl) qzh
noncomputable def qJa:Ctx:=qLp.addPlain 145 (qy qln qod qnK qof)
theorem qDZ:Av.Good qJa:=qEH.fnP qnK qdt qod qof 4 8 (by kernel_rfl) (fun x=>by kernel_rfl) qAS
noncomputable def qJW:Ctx:=qJa.addPlain 131 (qy qjz qlN ql3 ql7)
theorem qFg:Av.Good qJW:=qDZ.fnP ql3 qJ qlN ql7 4 8 (by kernel_rfl) (fun x=>by kernel_rfl) qyx
noncomputable def qK5:Ctx:=qJW.addPlain 106 (qy qlC qfb qoN qb0)
theorem qEN:Av.Good qK5:=qFg.fnP qoN qG qfb qb0 4 8 (by kernel_rfl) (fun x=>by kernel_rfl) qAN
noncomputable def qJR:Ctx:=qK5.addPlain 103 (qy qk7 qrS qot qci)
theorem qD6:Av.Good qJR:=qEN.fnP qot qrU qrS qci 4 8 (by kernel_rfl) (fun x=>by kernel_rfl) qAZ
noncomputable def qJh:Ctx:=qJR.addPlain 110 (qy qmn qsL qpu qL)
theorem qEk:Av.Good qJh:=qD6.fnP qpu qwF qsL qL 2 8 (by kernel_rfl) (fun x=>by kernel_rfl) qB2
noncomputable def qIOz:Ctx:=qJh.addPlain 135 (qy qmz qsJ qps qcO)
theorem qEx:Av.Good qIOz:=qEk.fnP qps qwy qsJ qcO 2 8 (by kernel_rfl) (fun x=>by kernel_rfl) qBy
noncomputable def qLw:Ctx:=qIOz.addPlain 115 (qy qoy qtF qqT qgx)
theorem qEw:Av.Good qLw:=qEx.fnP qqT qx8 qtF qgx 2 8 (by kernel_rfl) (fun x=>by kernel_rfl) qFT
noncomputable def qJ9:Ctx:=qLw.addPlain 171 (qy qn5 qt5 qqF qhh)
theorem qD4:Av.Good qJ9:=qEw.fnP qqF qxG qt5 qhh 2 8 (by kernel_rfl) (fun x=>by kernel_rfl) qEQ
noncomputable def qLA:Ctx:=qJ9.addPlain 172 (qy qjp qo6 qlW qfn)
theorem qEK:Av.Good qLA:=qD4.fnP qlW qtk qo6 qfn 2 8 (by kernel_rfl) (fun x=>by kernel_rfl) qyF
noncomputable def qJ7:Ctx:=qLA.addPlain 154 (qy qoE qui qq6 qiz)
theorem qFP:Av.Good qJ7:=qEK.fnP qq6 qy3 qui qiz 2 8 (by kernel_rfl) (fun x=>by kernel_rfl) qEr
noncomputable def qKo:Ctx:=qJ7.addPlain 155 (qy qmh qsB qpL qkB)
theorem qFt:Av.Good qKo:=qFP.fnP qpL qwq qsB qkB 2 8 (by kernel_rfl) (fun x=>by kernel_rfl) qB4
noncomputable def qJD:Ctx:=qKo.addPlain 77 (qy qnN qtE qqG qdr)
theorem qEA:Av.Good qJD:=qFt.fnP qqG qyg qtE qdr 2 8 (by kernel_rfl) (fun x=>by kernel_rfl) qDV
noncomputable def qKL:Ctx:=qJD.addPlain 169 (qy qnU qtX qqH qiC)
theorem qFm:Av.Good qKL:=qEA.fnP qqH qx7 qtX qiC 2 8 (by kernel_rfl) (fun x=>by kernel_rfl) qFS
noncomputable def qLj:Ctx:=qKL.addPlain 170 (qy qp6 quO qsb qiK)
theorem qEY:Av.Good qLj:=qFm.fnP qsb qz1 quO qiK 2 8 (by kernel_rfl) (fun x=>by kernel_rfl) qHK
noncomputable def qJu:Ctx:=qLj.addPlain 134 (qy qn0 qtZ qqQ qgw)
theorem qE0:Av.Good qJu:=qEY.fnP qqQ qx3 qtZ qgw 2 8 (by kernel_rfl) (fun x=>by kernel_rfl) qEl
noncomputable def qLS:Ctx:=qJu.addPlain 165 (qy qop qt7 qqU qlO)
theorem qFf:Av.Good qLS:=qE0.fnP qqU qxY qt7 qlO 2 8 (by kernel_rfl) (fun x=>by kernel_rfl) qE4
noncomputable def qKw:Ctx:=qLS.addPlain 166 (qy qnO qnR qqX qik)
theorem qFl:Av.Good qKw:=qFf.fnP qqX qyz qnR qik 2 8 (by kernel_rfl) (fun x=>by kernel_rfl) qEM
noncomputable def qLC:Ctx:=qKw.addPlain 167 (qy qoq qtt qqR qnL)
theorem qFh:Av.Good qLC:=qFl.fnP qqR qxx qtt qnL 2 8 (by kernel_rfl) (fun x=>by kernel_rfl) qEm
noncomputable def qIX:Ctx:=qLC.addPlain 168 (qy qnY qtG qq7 qnP)
theorem qFp:Av.Good qIX:=qFh.fnP qq7 qyC qtG qnP 2 8 (by kernel_rfl) (fun x=>by kernel_rfl) qFJ
noncomputable def qKb:Ctx:=qIX.addPlain 164 (qy qkg qqs qmW qkm)
theorem qEV:Av.Good qKb:=qFp.fnP qmW quw qqs qkm 2 8 (by kernel_rfl) (fun x=>by kernel_rfl) qzF
noncomputable def qI1:Ctx:=qKb.addPlain 173 (qy qoJ quf qrb qlV)
theorem qFW:Av.Good qI1:=qEV.fnP qrb qy1 quf qlV 2 8 (by kernel_rfl) (fun x=>by kernel_rfl) qEh
noncomputable def qKP:Ctx:=qI1.addPlain 150 (qy qmy qsy qpz qhA)
theorem qEd:Av.Good qKP:=qFW.fnP qpz qpy qsy qhA 2 8 (by kernel_rfl) (fun x=>by kernel_rfl) qBr
noncomputable def qJt:Ctx:=qKP.addPlain 139 (qy qnI qtB qqP qeu)
theorem qD3:Av.Good qJt:=qEd.fnP qqP ql0 qtB qeu 2 8 (by kernel_rfl) (fun x=>by kernel_rfl) qDW
noncomputable def qK8:Ctx:=qJt.addLoop 137 2 qh8.toT.toLoop
theorem qD2:Av.Good qK8:=qD3.loopN qh8 2 8 (by kernel_rfl) (fun _ _=>rfl) (fun x y s m K=>by kernel_rfl) (fun x y s s' K e=>by kernel_rfl)
noncomputable def qI2:Ctx:=qK8.addPlain 137 (qy qmq qhB qpA qb7)
theorem qFb:Av.Good qI2:=qD2.fnP qpA qsE qhB qb7 2 8 (by kernel_rfl) (fun x=>by kernel_rfl) qCn
noncomputable def qKF:Ctx:=qI2.addPlain 151 (qy qll qfQ qoI qhJ)
theorem qES:Av.Good qKF:=qFb.fnP qoI qrA qfQ qhJ 2 8 (by kernel_rfl) (fun x=>by kernel_rfl) qAR
noncomputable def qLF:Ctx:=qKF.addPlain 152 (qy qkj qqy qmF qki)
theorem qFj:Av.Good qLF:=qES.fnP qmF qky qqy qki 2 8 (by kernel_rfl) (fun x=>by kernel_rfl) qze
noncomputable def qKM:Ctx:=qLF.addPlain 153 (qy qpV qvr qsj qp2)
theorem qEI:Av.Good qKM:=qFj.fnP qsj qpU qvr qp2 2 8 (by kernel_rfl) (fun x=>by kernel_rfl) qIp
noncomputable def qKf:Ctx:=qKM.addPlain 156 (qy qks qqf qm6 qf4)
theorem qE2:Av.Good qKf:=qEI.fnP qm6 qmD qqf qf4 2 8 (by kernel_rfl) (fun x=>by kernel_rfl) qzq
noncomputable def qKA:Ctx:=qKf.addPlain 140 (qy qml qmm qpN qkA)
theorem qEW:Av.Good qKA:=qE2.fnP qpN qkD qmm qkA 2 8 (by kernel_rfl) (fun x=>by kernel_rfl) qCG
noncomputable def qIU:Ctx:=qKA.addPlain 116 (qy qli qe1 qoh qc)
theorem qEj:Av.Good qIU:=qEW.fnP qoh qlK qe1 qc 2 8 (by kernel_rfl) (fun x=>by kernel_rfl) qAT
noncomputable def qKK:Ctx:=qIU.addPlain 119 (qy qn8 qep qqK qbf)
theorem qFQ:Av.Good qKK:=qEj.fnP qqK qq8 qep qbf 2 8 (by kernel_rfl) (fun x=>by kernel_rfl) qFa
noncomputable def qKs:Ctx:=qKK.addPlain 118 (qy qlh qc7 qnW qcL)
theorem qD5:Av.Good qKs:=qFQ.fnP qnW qn6 qc7 qcL 2 8 (by kernel_rfl) (fun x=>by kernel_rfl) qAU
noncomputable def qJq:Ctx:=qKs.addPlain 53 (qy qjn qo0 qma qbt)
theorem qEb:Av.Good qJq:=qD5.fnP qma qhF qo0 qbt 2 8 (by kernel_rfl) (fun x=>by kernel_rfl) qxT
noncomputable def qLK:Ctx:=qJq.addPlain 157 (qy qlt qrK qnM qhL)
theorem qED:Av.Good qLK:=qEb.fnP qnM qnV qrK qhL 2 8 (by kernel_rfl) (fun x=>by kernel_rfl) qAO
noncomputable def qLq:Ctx:=qLK.addLoop 141 6 qiA.toT.toLoop
theorem qEg:Av.Good qLq:=qED.loopN qiA 2 8 (by kernel_rfl) (fun _ _=>rfl) (fun x y s m K=>by kernel_rfl) (fun x y s s' K e=>by kernel_rfl)
noncomputable def qKB:Ctx:=qLq.addPlain 141 (qy qkl qg5 qmS qF)
theorem qFk:Av.Good qKB:=qEg.fnP qmS qqp qg5 qF 2 8 (by kernel_rfl) (fun x=>by kernel_rfl) qzi
noncomputable def qKN:Ctx:=qKB.addPlain 74 (qy qlu qrC qoe q8)
theorem qEy:Av.Good qKN:=qFk.fnP qoe qoi qrC q8 2 8 (by kernel_rfl) (fun x=>by kernel_rfl) qAW
noncomputable def qLN:Ctx:=qKN.addLoop 91 6 qgz.toT.toLoop
theorem qFr:Av.Good qLN:=qEy.loopN qgz 2 8 (by kernel_rfl) (fun _ _=>rfl) (fun x y s m K=>by kernel_rfl) (fun x y s s' K e=>by kernel_rfl)
noncomputable def qJX:Ctx:=qLN.addBody 91 (qf5 qfq qfz qhp qjF qcQ qz)
theorem qFs:Av.Good qJX:=qFr.fnB qhp qj1 qcQ qz 2 8 (by kernel_rfl) (fun x y=>by kernel_rfl) qtl
noncomputable def qKm:Ctx:=qJX.addBody 138 (qf5 qe5 qeY qgL qiY qc3 qU)
theorem qE5:Av.Good qKm:=qFs.fnB qgL qjm qc3 qU 2 8 (by kernel_rfl) (fun x y=>by kernel_rfl) qsY
noncomputable def qIW:Ctx:=qKm.addBody 92 (qf5 qeA qeI qgu qh1 qiV qdz)
theorem qFC:Av.Good qIW:=qE5.fnB qgu qmC qiV qdz 2 8 (by kernel_rfl) (fun x y=>by kernel_rfl) qr7
noncomputable def qJZ:Ctx:=qIW.addPlain 112 (qy qhT qnj qjJ qbB)
theorem qFH:Av.Good qJZ:=qFC.fnP qjJ qhH qnj qbB 2 8 (by kernel_rfl) (fun x=>by kernel_rfl) qwo
noncomputable def qKH:Ctx:=qJZ.addLoop 76 8 qji.toT.toLoop
theorem qEB:Av.Good qKH:=qFH.loopN qji 2 8 (by kernel_rfl) (fun _ _=>rfl) (fun x y s m K=>by kernel_rfl) (fun x y s s' K e=>by kernel_rfl)
noncomputable def qLI:Ctx:=qKH.addLoop 76 15 qig.toT.toLoop
theorem qEF:Av.Good qLI:=qEB.loopN qig 2 8 (by kernel_rfl) (fun _ _=>rfl) (fun x y s m K=>by kernel_rfl) (fun x y s s' K e=>by kernel_rfl)
noncomputable def qJb:Ctx:=qLI.addPlain 107 (qy qlF qrQ qnH qbZ)
theorem qEC:Av.Good qJb:=qEF.fnP qnH qnZ qrQ qbZ 2 8 (by kernel_rfl) (fun x=>by kernel_rfl) qA2
noncomputable def qKr:Ctx:=qJb.addPlain 69 (qy qjt qgq ql8 qcr)
theorem qFD:Av.Good qKr:=qEC.fnP ql8 qcE qgq qcr 2 8 (by kernel_rfl) (fun x=>by kernel_rfl) qxz
noncomputable def qLh:Ctx:=qKr.addPlain 158 (qy qkb qo qm1 qb)
theorem qFz:Av.Good qLh:=qFD.fnP qm1 qmJ qo qb 2 8 (by kernel_rfl) (fun x=>by kernel_rfl) qzS
noncomputable def qKJ:Ctx:=qLh.addPlain 148 (qy qke qcd qm4 qb4)
theorem qEi:Av.Good qKJ:=qFz.fnP qm4 qmP qcd qb4 2 8 (by kernel_rfl) (fun x=>by kernel_rfl) qzk
noncomputable def qI6:Ctx:=qKJ.addPlain 159 (qy qiI qcs qkR qbS)
theorem qEE:Av.Good qI6:=qEi.fnP qkR qiO qcs qbS 2 8 (by kernel_rfl) (fun x=>by kernel_rfl) qxb
noncomputable def qJN:Ctx:=qI6.addLoop 174 2 qdc.toT.toLoop
theorem qEU:Av.Good qJN:=qEE.loopN qdc 2 8 (by kernel_rfl) (fun _ _=>rfl) (fun x y s m K=>by kernel_rfl) (fun x y s s' K e=>by kernel_rfl)
noncomputable def qIQ:Ctx:=qJN.addPlain 174 (qy qkt qY qm2 qby)
theorem qEe:Av.Good qIQ:=qEU.fnP qm2 qqt qY qby 2 8 (by kernel_rfl) (fun x=>by kernel_rfl) qzg
noncomputable def qLV:Ctx:=qIQ.addPlain 146 (qy qkx qql qmH qct)
theorem qEO:Av.Good qLV:=qEe.fnP qmH qqj qql qct 2 8 (by kernel_rfl) (fun x=>by kernel_rfl) qzf
noncomputable def qK1:Ctx:=qLV.addPlain 147 (qy qis qfP qkZ qcV)
theorem qEp:Av.Good qK1:=qEO.fnP qkZ qgY qfP qcV 2 12 (by kernel_rfl) (fun x=>by kernel_rfl) qxr
noncomputable def qLM:Ctx:=qK1.addPlain 160 (qy qjw qgo qmc qc6)
theorem qD0:Av.Good qLM:=qEp.fnP qmc qhE qgo qc6 3 12 (by kernel_rfl) (fun x=>by kernel_rfl) qyR
noncomputable def qK4:Ctx:=qLM.addPlain 161 (qy qhP qfm qjM qcK)
theorem qFV:Av.Good qK4:=qD0.fnP qjM qgr qfm qcK 2 12 (by kernel_rfl) (fun x=>by kernel_rfl) qwn
noncomputable def qLJ:Ctx:=qK4.addPlain 162 (qy qjx qgn qlZ qc8)
theorem qD1:Av.Good qLJ:=qFV.fnP qlZ qhG qgn qc8 2 12 (by kernel_rfl) (fun x=>by kernel_rfl) qx0
noncomputable def qJQ:Ctx:=qLJ.addPlain 163 (qy qiG qfU qkX qcT)
theorem qFc:Av.Good qJQ:=qD1.fnP qkX qgT qfU qcT 2 12 (by kernel_rfl) (fun x=>by kernel_rfl) qwY
noncomputable def qKE:Ctx:=qJQ.addPlain 149 (qy qkf qh9 qm3 qg6)
theorem qFR:Av.Good qKE:=qFc.fnP qm3 qic qh9 qg6 2 12 (by kernel_rfl) (fun x=>by kernel_rfl) qzA
noncomputable def qJz:Ctx:=qKE.addPlain 136 (qy qii qgP qkW qx)
theorem qFM:Av.Good qJz:=qFR.fnP qkW qgR qgP qx 2 12 (by kernel_rfl) (fun x=>by kernel_rfl) qxc
noncomputable def qKt:Ctx:=qJz.addPlain 113 (qy qmk qpx qpP qiT)
theorem qEu:Av.Good qKt:=qFM.fnP qpP qwO qpx qiT 2 8 (by kernel_rfl) (fun x=>by kernel_rfl) qCr
noncomputable def qJc:Ctx:=qKt.addPlain 10 (qy qiL qn9 qkQ qM)
theorem qFx:Av.Good qJc:=qEu.fnP qkQ qir qn9 qM 2 8 (by kernel_rfl) (fun x=>by kernel_rfl) qwR
noncomputable def qJL:Ctx:=qJc.addBody 78 (qf5 qe2 qfa qg2 qi7 qdS qgU)
theorem qFw:Av.Good qJL:=qFx.fnB qg2 qju qdS qgU 3 8 (by kernel_rfl) (fun x y=>by kernel_rfl) qsP
noncomputable def qKY:Ctx:=qJL.addCut 114 5 qdu.toT.toLoop
theorem qE9:Av.Good qKY:=qFw.cutN qdu 2 8 (by kernel_rfl) (fun _ _=>rfl) (fun x y K=>by kernel_rfl)
noncomputable def qKd:Ctx:=qKY.addBody 41 (qf5 qeD qez qgA qh6 qi6 qi5)
theorem qFe:Av.Good qKd:=qE9.fnB qgA qmt qi6 qi5 2 8 (by kernel_rfl) (fun x y=>by kernel_rfl) qr5
noncomputable def qJ3:Ctx:=qKd.addBody 43 (qf5 qeb qea qf6 qhN qh0 qh5)
theorem qFi:Av.Good qJ3:=qFe.fnB qf6 qmd qh0 qh5 2 8 (by kernel_rfl) (fun x y=>by kernel_rfl) qrP
noncomputable def qKz:Ctx:=qJ3.addBody 50 (qf5 qdL qdM qfF qho qed qhW)
theorem qE8:Av.Good qKz:=qFi.fnB qfF qlk qed qhW 3 8 (by kernel_rfl) (fun x y=>by kernel_rfl) qqI
noncomputable def qBm:Ctx:=qKz.addBody 51 (qf5 qeg qd8 qgb qhI qh7 qhZ)
theorem qwz:Av.Good qBm:=qE8.fnB qgb qme qh7 qhZ 3 8 (by kernel_rfl) (fun x y=>by kernel_rfl) qrN
noncomputable def qJ0:Ctx:=qBm.addBody 42 (qx6 qBm qd7 8 4 42 79 148)
theorem qE7:Av.Good qJ0:=qwz.addBody (qPB qwz (by kernel_rfl) 8 4) (by kernel_rfl)
noncomputable def qLX:Ctx:=qJ0.addBody 42 (qf5 qeB qeC qgB qh3 qcD qq)
theorem qE1:Av.Good qLX:=qE7.fnB qgB qi9 qcD qq 2 8 (by kernel_rfl) (fun x y=>by kernel_rfl) qr6
noncomputable def qKC:Ctx:=qLX.addLoop 48 2 qk2.toT.toLoop
theorem qFB:Av.Good qKC:=qE1.loopN qk2 3 8 (by kernel_rfl) (fun _ _=>rfl) (fun x y s m K=>by kernel_rfl) (fun x y s s' K e=>by kernel_rfl)
noncomputable def qI0:Ctx:=qKC.addBody 48 (qf5 qeh qec qgc qhM qf7 qh4)
theorem qDX:Av.Good qI0:=qFB.fnB qgc qh2 qf7 qh4 3 8 (by kernel_rfl) (fun x y=>by kernel_rfl) qrX
noncomputable def qJU:Ctx:=qI0.addPlain 133 (qy qp3 qlq qsi qnD)
theorem qFG:Av.Good qJU:=qDX.fnP qsi qle qlq qnD 2 8 (by kernel_rfl) (fun x=>by kernel_rfl) qHZ
noncomputable def qJH:Ctx:=qJU.addPlain 109 (qy qkh qqv qmQ qej)
theorem qFq:Av.Good qJH:=qFG.fnP qmQ qmZ qqv qej 2 8 (by kernel_rfl) (fun x=>by kernel_rfl) qzX
noncomputable def qKa:Ctx:=qJH.addPlain 111 (qy qon qes qqM qW)
theorem qEa:Av.Good qKa:=qFq.fnP qqM qjL qes qW 2 8 (by kernel_rfl) (fun x=>by kernel_rfl) qFy
noncomputable def qJJ:Ctx:=qKa.addPlain 72 (qy qku qqu qmG qbO)
theorem qD9:Av.Good qJJ:=qEa.fnP qmG qid qqu qbO 3 8 (by kernel_rfl) (fun x=>by kernel_rfl) qzb
noncomputable def qKk:Ctx:=qJJ.addPlain 73 (qy qkn qqm qmI qQ)
theorem qFL:Av.Good qKk:=qD9.fnP qmI qmV qqm qQ 2 20 (by kernel_rfl) (fun x=>by kernel_rfl) qzE
noncomputable def qIZ:Ctx:=qKk.addLoop 75 7 qiu.toT.toLoop
theorem qFK:Av.Good qIZ:=qFL.loopN qiu 3 8 (by kernel_rfl) (fun _ _=>rfl) (fun x y s m K=>by kernel_rfl) (fun x y s s' K e=>by kernel_rfl)
noncomputable def qLg:Ctx:=qIZ.addPlain 75 (qy qkw qmU qmY qbK)
theorem qFA:Av.Good qLg:=qFK.fnP qmY qmT qmU qbK 4 8 (by kernel_rfl) (fun x=>by kernel_rfl) qzD
noncomputable def qLt:Ctx:=qLg.addCut 21 12 qha.toT.toLoop
theorem qEJ:Av.Good qLt:=qFA.cutN qha 6 12 (by kernel_rfl) (fun _ _=>rfl) (fun x y K=>by kernel_rfl)
noncomputable def qLe:Ctx:=qLt.addPlain 21 (qy qj8 qqz qmK qO)
theorem qE3:Av.Good qLe:=qEJ.fnP qmK qqi qqz qO 6 12 (by kernel_rfl) (fun x=>by kernel_rfl) qzu
noncomputable def qKO:Ctx:=qLe.addPlain 104 (qy qlB qhR qoF qhQ)
theorem qEG:Av.Good qKO:=qE3.fnP qoF qlf qhR qhQ 2 8 (by kernel_rfl) (fun x=>by kernel_rfl) qA6
noncomputable def qKv:Ctx:=qKO.addPlain 142 (qy qk9 qrO qoH qgE)
theorem qFo:Av.Good qKv:=qEG.fnP qoH qjE qrO qgE 2 8 (by kernel_rfl) (fun x=>by kernel_rfl) qA4
noncomputable def qK0:Ctx:=qKv.addPlain 124 (qy qnG qtU qqV qfi)
theorem qFI:Av.Good qK0:=qFo.fnP qqV qlS qtU qfi 2 8 (by kernel_rfl) (fun x=>by kernel_rfl) qEn
noncomputable def qKl:Ctx:=qK0.addLoop 67 3 qmx.toT.toLoop
theorem qEZ:Av.Good qKl:=qFI.loopN qmx 2 8 (by kernel_rfl) (fun _ _=>rfl) (fun x y s m K=>by kernel_rfl) (fun x y s s' K e=>by kernel_rfl)
noncomputable def qKX:Ctx:=qKl.addPlain 67 (qy qqe qjH qsv qie)
theorem qEL:Av.Good qKX:=qEZ.fnP qsv qqc qjH qie 2 8 (by kernel_rfl) (fun x=>by kernel_rfl) qIv
noncomputable def qLc:Ctx:=qKX.addLoop 101 3 qeH.toT.toLoop
theorem qFF:Av.Good qLc:=qEL.loopN qeH 2 8 (by kernel_rfl) (fun _ _=>rfl) (fun x y s m K=>by kernel_rfl) (fun x y s s' K e=>by kernel_rfl)
noncomputable def qKZ:Ctx:=qLc.addLoop 99 2 qeG.toT.toLoop
theorem qFE:Av.Good qKZ:=qFF.loopN qeG 2 8 (by kernel_rfl) (fun _ _=>rfl) (fun x y s m K=>by kernel_rfl) (fun x y s s' K e=>by kernel_rfl)
noncomputable def qJl:Ctx:=qKZ.addLoop 99 8 qey.toT.toLoop
theorem qEv:Av.Good qJl:=qFE.loopN qey 2 8 (by kernel_rfl) (fun _ _=>rfl) (fun x y s m K=>by kernel_rfl) (fun x y s s' K e=>by kernel_rfl)
noncomputable def qGg:Ctx:=qJl.addLoop 100 2 qeE.toT.toLoop
theorem qCp:Av.Good qGg:=qEv.loopN qeE 2 8 (by kernel_rfl) (fun _ _=>rfl) (fun x y s m K=>by kernel_rfl) (fun x y s s' K e=>by kernel_rfl)
noncomputable def qGt:Ctx:=qGg.addLoop 100 11 qd4.toT.toLoop
theorem qDA:Av.Good qGt:=qCp.loopN qd4 2 8 (by kernel_rfl) (fun _ _=>rfl) (fun x y s m K=>by kernel_rfl) (fun x y s s' K e=>by kernel_rfl)
noncomputable def qG1:Ctx:=qGt.addBody 70 qni
theorem qDl:Av.Good qG1:=qDA.addBody qHU (by kernel_rfl)
noncomputable def qGZ:Ctx:=qG1.addBody 71 qsC
theorem qBK:Av.Good qGZ:=qDl.addBody qEo (by kernel_rfl)
noncomputable def qHg:Ctx:=qGZ.addPlain 68 qdO
theorem qDk:Av.Good qHg:=qBK.addSnap qBI (by kernel_rfl) qEP
noncomputable def qGW:Ctx:=qHg.addBody 99 (qf5 qfd qeZ qgQ qi8 qdZ qa)
theorem qDv:Av.Good qGW:=qDk.fnB qgQ qfo qdZ qa 3 8 (by kernel_rfl) (fun x y=>by kernel_rfl) qsO
noncomputable def qGU:Ctx:=qGW.addBody 100 (qf5 qeU qeT qgX qi3 qdQ qj)
theorem qBz:Av.Good qGU:=qDv.fnB qgX qfx qdQ qj 3 8 (by kernel_rfl) (fun x y=>by kernel_rfl) qsH
noncomputable def qHb:Ctx:=qGU.addBody 101 (qf5 qe4 qff qgK qiU qdP qbg)
theorem qBk:Av.Good qHb:=qBz.fnB qgK qdX qdP qbg 3 8 (by kernel_rfl) (fun x y=>by kernel_rfl) qsQ
noncomputable def qGH:Ctx:=qHb.addBody 65 (qf5 qeV qeX qgM qiW qdR qdU)
theorem qBN:Av.Good qGH:=qBk.fnB qgM qdV qdR qdU 4 8 (by kernel_rfl) (fun x y=>by kernel_rfl) qsS
noncomputable def qG4:Ctx:=qGH.addLoop 66 4 qeF.toT.toLoop
theorem qBo:Av.Good qG4:=qBN.loopN qeF 2 8 (by kernel_rfl) (fun _ _=>rfl) (fun x y s m K=>by kernel_rfl) (fun x y s s' K e=>by kernel_rfl)
noncomputable def qGa:Ctx:=qG4.addBody 66 (qf5 qe6 qe0 qgV qi0 qdW qV)
theorem qCi:Av.Good qGa:=qBo.fnB qgV qd0 qdW qV 3 8 (by kernel_rfl) (fun x y=>by kernel_rfl) qsG
noncomputable def qF5:Ctx:=qGa.addLoop 38 5 qhU.toT.toLoop
theorem qBx:Av.Good qF5:=qCi.loopN qhU 3 8 (by kernel_rfl) (fun _ _=>rfl) (fun x y s m K=>by kernel_rfl) (fun x y s s' K e=>by kernel_rfl)
noncomputable def qGT:Ctx:=qF5.addLoop 38 10 qhb.toT.toLoop
theorem qCF:Av.Good qGT:=qBx.loopN qhb 3 8 (by kernel_rfl) (fun _ _=>rfl) (fun x y s m K=>by kernel_rfl) (fun x y s s' K e=>by kernel_rfl)
noncomputable def qGn:Ctx:=qGT.addPlain 38 (qy qjk qgj qlU qcp)
theorem qC7:Av.Good qGn:=qCF.fnP qlU qfu qgj qcp 3 8 (by kernel_rfl) (fun x=>by kernel_rfl) qy5
noncomputable def qF9:Ctx:=qGn.addPlain 32 (qy quL qrw quK qr4)
theorem qDu:Av.Good qF9:=qC7.fnP quK qu0 qrw qr4 3 8 (by kernel_rfl) (fun x=>by kernel_rfl) qA0
noncomputable def qFZ:Ctx:=qF9.addPlain 88 (qy qjv qpm qs2 ql1)
theorem qDh:Av.Good qFZ:=qDu.fnP qs2 qpp qpm ql1 3 8 (by kernel_rfl) (fun x=>by kernel_rfl) qyK
noncomputable def qGm:Ctx:=qFZ.addPlain 45 (qy qjD qo8 qs7 qdA)
theorem qDJ:Av.Good qGm:=qDh.fnP qs7 qpi qo8 qdA 8 12 (by kernel_rfl) (fun x=>by kernel_rfl) qyv
noncomputable def qFY:Ctx:=qGm.addPlain 55 (qy qmp qsU qwM qmj)
theorem qCJ:Av.Good qFY:=qDJ.fnP qwM qwx qsU qmj 8 12 (by kernel_rfl) (fun x=>by kernel_rfl) qCq
noncomputable def qGh:Ctx:=qFY.addLoop 52 2 qdp.toT.toLoop
theorem qCQ:Av.Good qGh:=qCJ.loopN qdp 3 8 (by kernel_rfl) (fun _ _=>rfl) (fun x y s m K=>by kernel_rfl) (fun x y s s' K e=>by kernel_rfl)
noncomputable def qF0:Ctx:=qGh.addPlain 52 (qy qjs qeq qtp qbI)
theorem qDx:Av.Good qF0:=qCQ.fnP qtp qpo qeq qbI 3 8 (by kernel_rfl) (fun x=>by kernel_rfl) qyP
noncomputable def qGz:Ctx:=qF0.addPlain 22 (qy qiw qfW qkV qdN)
theorem qDR:Av.Good qGz:=qDx.fnP qkV qg3 qfW qdN 3 8 (by kernel_rfl) (fun x=>by kernel_rfl) qxj
noncomputable def qGq:Ctx:=qGz.addPlain 24 (qy qk5 qro qos qe7)
theorem qDG:Av.Good qGq:=qDR.fnP qos qlD qro qe7 4 8 (by kernel_rfl) (fun x=>by kernel_rfl) qA7
noncomputable def qGB:Ctx:=qGq.addPlain 23 (qy qiy qoD qkU qfH)
theorem qCE:Av.Good qGB:=qDG.fnP qkU qix qoD qfH 4 8 (by kernel_rfl) (fun x=>by kernel_rfl) qxf
noncomputable def qGr:Ctx:=qGB.addPlain 29 (qy qjj qo9 qlM qoY)
theorem qDy:Av.Good qGr:=qCE.fnP qlM ql9 qo9 qoY 3 8 (by kernel_rfl) (fun x=>by kernel_rfl) qyL
noncomputable def qGJ:Ctx:=qGr.addPlain 19 (qy qfM qjP qoj qjW)
theorem qCz:Av.Good qGJ:=qDy.fnP qoj qob qjP qjW 9 12 (by kernel_rfl) (fun x=>by kernel_rfl) qtq
noncomputable def qGd:Ctx:=qGJ.addPlain 26 (qy qfN qjT qoA qjR)
theorem qBA:Av.Good qGd:=qCz.fnP qoA qoB qjT qjR 9 12 (by kernel_rfl) (fun x=>by kernel_rfl) qs0
noncomputable def qGQ:Ctx:=qGd.addLoop 39 6 qg1.toT.toLoop
theorem qCd:Av.Good qGQ:=qBA.loopN qg1 4 8 (by kernel_rfl) (fun _ _=>rfl) (fun x y s m K=>by kernel_rfl) (fun x y s s' K e=>by kernel_rfl)
noncomputable def qGi:Ctx:=qGQ.addPlain 39 (qy qkd qkz qmO qf1)
theorem qB6:Av.Good qGi:=qCd.fnP qmO qqr qkz qf1 4 8 (by kernel_rfl) (fun x=>by kernel_rfl) qzQ
noncomputable def qF4:Ctx:=qGi.addOwn 46
theorem qBj:Av.Good qF4:=qB6.addOwn 46
noncomputable def qG0:Ctx:=qF4.addLoop 20 3 qiZ.toT.toLoop
theorem qC4:Av.Good qG0:=qBj.loopN qiZ 4 8 (by kernel_rfl) (fun _ _=>rfl) (fun x y s m K=>by kernel_rfl) (fun x y s s' K e=>by kernel_rfl)
noncomputable def qGf:Ctx:=qG0.addLoop 47 4 qfc.toT.toLoop
theorem qCS:Av.Good qGf:=qC4.loopN qfc 3 8 (by kernel_rfl) (fun _ _=>rfl) (fun x y s m K=>by kernel_rfl) (fun x y s s' K e=>by kernel_rfl)
noncomputable def qGp:Ctx:=qGf.addPlain 47 (qy qfI qcx qhq qbp)
theorem qCo:Av.Good qGp:=qCS.fnP qhq qer qcx qbp 4 8 (by kernel_rfl) (fun x=>by kernel_rfl) qs9
noncomputable def qGP:Ctx:=qGp.addPlain 18 (qy qgI qlo qiq qlw)
theorem qCZ:Av.Good qGP:=qCo.fnP qiq qin qlo qlw 3 8 (by kernel_rfl) (fun x=>by kernel_rfl) quz
noncomputable def qGO:Ctx:=qGP.addPlain 20 (qy qfV qjN qhw qjK)
theorem qDr:Av.Good qGO:=qCZ.fnP qhw qhi qjN qjK 4 8 (by kernel_rfl) (fun x=>by kernel_rfl) qsZ
noncomputable def qHc:Ctx:=qGO.addLoop 58 3 qmw.toT.toLoop
theorem qBp:Av.Good qHc:=qDr.loopN qmw 3 8 (by kernel_rfl) (fun _ _=>rfl) (fun x y s m K=>by kernel_rfl) (fun x y s s' K e=>by kernel_rfl)
noncomputable def qGC:Ctx:=qHc.addPlain 58 (qy qp7 qnl qsq qsw)
theorem qCA:Av.Good qGC:=qBp.fnP qsq quC qnl qsw 3 8 (by kernel_rfl) (fun x=>by kernel_rfl) qIe
noncomputable def qGN:Ctx:=qGC.addPlain 25 (qy qgG qk6 qit qdm)
theorem qBS:Av.Good qGN:=qCA.fnP qit qif qk6 qdm 3 8 (by kernel_rfl) (fun x=>by kernel_rfl) quy
noncomputable def qHi:Ctx:=qGN.addPlain 30 (qy qfE qjY qhs qbH)
theorem qDb:Av.Good qHi:=qBS.fnP qhs qhj qjY qbH 3 8 (by kernel_rfl) (fun x=>by kernel_rfl) qtr
noncomputable def qGc:Ctx:=qHi.addLoop 57 3 qfv.toT.toLoop
theorem qCb:Av.Good qGc:=qDb.loopN qfv 3 8 (by kernel_rfl) (fun _ _=>rfl) (fun x y s m K=>by kernel_rfl) (fun x y s s' K e=>by kernel_rfl)
noncomputable def qF1:Ctx:=qGc.addPlain 57 (qy qge qdF qhY qbx)
theorem qBw:Av.Good qF1:=qCb.fnP qhY qeS qdF qbx 3 8 (by kernel_rfl) (fun x=>by kernel_rfl) qtL
noncomputable def qF6:Ctx:=qF1.addLoop 28 3 qfe.toT.toLoop
theorem qDg:Av.Good qF6:=qBw.loopN qfe 3 8 (by kernel_rfl) (fun _ _=>rfl) (fun x y s m K=>by kernel_rfl) (fun x y s s' K e=>by kernel_rfl)
noncomputable def qHe:Ctx:=qF6.addPlain 28 (qy qfJ qdq qhk qcA)
theorem qCM:Av.Good qHe:=qDg.fnP qhk qen qdq qcA 3 8 (by kernel_rfl) (fun x=>by kernel_rfl) qts
noncomputable def qGE:Ctx:=qHe.addLoop 56 4 qdy.toT.toLoop
theorem qC5:Av.Good qGE:=qCM.loopN qdy 4 8 (by kernel_rfl) (fun _ _=>rfl) (fun x y s m K=>by kernel_rfl) (fun x y s s' K e=>by kernel_rfl)
noncomputable def qGy:Ctx:=qGE.addPlain 27 (qy qfG qem qhe qr)
theorem qCN:Av.Good qGy:=qC5.fnP qhe qex qem qr 4 8 (by kernel_rfl) (fun x=>by kernel_rfl) qtn
noncomputable def qQJ:Ctx:=qGy
theorem qKV:Av.Good qQJ:=qCN
end Go.Proofs.YtealbjacocgjcaaGreat
end
section
namespace Go.Av
open Go
structure CLoop (E:Env) (p:Nat) (img n:Int):Prop where
 i0:E.P[p]?=some (.op (qp 3 1 0 0 0 0 0))
 i1:E.P[p+1]?=some (.op (qp 3 2 0 0 0 (lo false n) 0))
 i2:E.P[p+2]?=some (.op (qp 4 2 0 0 0 (hi false n) 0))
 i3:E.P[p+3]?=some (.op (qp 23 0 1 2 0 0 0))
 i4:E.P[p+4]?=some (.br 25 2 (p+19))
 i5:E.P[p+5]?=some (.op (qp 3 3 0 0 0 (lo false img) 0))
 i6:E.P[p+6]?=some (.op (qp 14 4 1 3 0 0 0))
 i7:E.P[p+7]?=some (.op (qp 3 5 0 0 0 0 0))
 i8:E.P[p+8]?=some (.op (qp 4 5 0 0 0 (hi false 537133056) 0))
 i9:E.P[p+9]?=some (.op (qp 18 5 4 0 16 0 0))
 i10:E.P[p+10]?=some (.op (qp 3 6 0 0 0 0 0))
 i11:E.P[p+11]?=some (.op (qp 4 6 0 0 0 (hi false 537001984) 0))
 i12:E.P[p+12]?=some (.op (qp 18 6 1 0 16 0 0))
 i13:E.P[p+13]?=some (.op (qp 19 0 5 0 0 0 0))
 i14:E.P[p+14]?=some (.op (qp 20 0 6 0 0 0 0))
 i15:E.P[p+15]?=some (.op (qp 3 3 0 0 0 4 0))
 i16:E.P[p+16]?=some (.op (qp 14 4 1 3 0 0 0))
 i17:E.P[p+17]?=some (.op (qp 5 1 0 4 0 0 0))
 i18:E.P[p+18]?=some (.br 24 0 (p+1))
 hb:p+19<E.h
structure VLoop (E:Env) (p:Nat) (img n:Int):Prop where
 i0:E.P[p]?=some (.op (qp 3 1 0 0 0 0 0))
 i1:E.P[p+1]?=some (.op (qp 3 2 0 0 0 (lo false n) 0))
 i2:E.P[p+2]?=some (.op (qp 4 2 0 0 0 (hi false n) 0))
 i3:E.P[p+3]?=some (.op (qp 23 0 1 2 0 0 0))
 i4:E.P[p+4]?=some (.br 25 2 (p+27))
 i5:E.P[p+5]?=some (.op (qp 3 3 0 0 0 (lo false img) 0))
 i6:E.P[p+6]?=some (.op (qp 14 4 1 3 0 0 0))
 i7:E.P[p+7]?=some (.op (qp 3 5 0 0 0 0 0))
 i8:E.P[p+8]?=some (.op (qp 4 5 0 0 0 (hi false 537133056) 0))
 i9:E.P[p+9]?=some (.op (qp 18 5 4 0 16 0 0))
 i10:E.P[p+10]?=some (.op (qp 3 7 0 0 0 0 0))
 i11:E.P[p+11]?=some (.op (qp 4 7 0 0 0 (hi false 537395200) 0))
 i12:E.P[p+12]?=some (.op (qp 18 7 4 0 16 0 0))
 i13:E.P[p+13]?=some (.op (qp 3 6 0 0 0 0 0))
 i14:E.P[p+14]?=some (.op (qp 4 6 0 0 0 (hi false 537001984) 0))
 i15:E.P[p+15]?=some (.op (qp 18 6 1 0 16 0 0))
 i16:E.P[p+16]?=some (.op (qp 19 0 6 0 0 0 0))
 i17:E.P[p+17]?=some (.op (qp 19 2 5 0 0 0 0))
 i18:E.P[p+18]?=some (.op (qp 23 0 0 2 0 0 0))
 i19:E.P[p+19]?=some (.br 25 1 E.h)
 i20:E.P[p+20]?=some (.op (qp 19 2 7 0 0 0 0))
 i21:E.P[p+21]?=some (.op (qp 23 0 0 2 0 0 0))
 i22:E.P[p+22]?=some (.br 25 1 E.h)
 i23:E.P[p+23]?=some (.op (qp 3 3 0 0 0 4 0))
 i24:E.P[p+24]?=some (.op (qp 14 4 1 3 0 0 0))
 i25:E.P[p+25]?=some (.op (qp 5 1 0 4 0 0 0))
 i26:E.P[p+26]?=some (.br 24 0 (p+1))
 hb:p+27<E.h
theorem qfs {E:Env} {j:Nat} {s s':IS} (l:List qA.den) (hP:∀i,i<l.length→E.P[j+i]?=(l[i]?).map .op) (hh:j+l.length≤E.h) (h:qdK E l s=some s'):GoTo E l.length 0 j s (j+l.length) s' :=
 qi1 l j s s' hP (fun i hi=>by omega) h
theorem qxV {E:Env} {j:Nat} {a b:qA.den} (h0:E.P[j]?=some (.op a)) (h1:E.P[j+1]?=some (.op b)):∀i,i < [a,b].length→E.P[j+i]?=([a,b][i]?).map .op:=by
 intro i hi
 have hi:i<2:=hi
 have:i=0∨i=1:=by omega
 rcases this with rfl |rfl
 ·exact h0
 ·exact h1
theorem qBl (E:Env) (img:Int) (s:IS) (hi:wn img<65536) (h:s.1 1<65536):∃ρ',qdK E [qp 3 3 0 0 0 (lo false img) 0,qp 14 4 1 3 0 0 0] s=some (ρ',s.2)∧ρ' 4=s.1 1+wn img∧∀k,k≠3→k≠4→ρ' k=s.1 k:=by
 have hl:wn (lo false img)=wn img:=by rw[qLE];exact Nat.mod_eq_of_lt hi
 refine⟨qn (qn s.1 3 (wn img)) 4 (s.1 1+wn img),?_,qbL _ _ _,fun k h3 h4=>by rw[qba _ _ h4,qba _ _ h3]⟩
 rw[qhd (qCU E 3 (lo false img) s),hl]
 have g1:(qn s.1 3 (wn img)) 1=s.1 1:=qba _ _ (by decide)
 have g2:(qn s.1 3 (wn img)) 3=wn img:=qbL _ _ _
 have e1:=qN3 E 4 1 3 (qn s.1 3 (wn img),s.2) (by
  show(qn s.1 3 (wn img)) 1+(qn s.1 3 (wn img)) 3<_
  rw[g1,g2]
  omega)
 rw[show((qn s.1 3 (wn img),s.2):IS).1=qn s.1 3 (wn img) from rfl,g1,g2] at e1
 rw[qhd e1]
 rfl
section
variable {E:Env} {p:Nat} {img n:Int}
theorem qzw (h:CLoop E p img n) (s:IS) (hv:wn n≤s.1 1):∃s',GoTo E 4 0 (p+1) s (p+19) s'∧s'.2.2=s.2.2:=by
 obtain⟨ρ1,e1,_⟩:=qjI E n s
 have hb:=h.hb
 have g1:=qfs [qp 3 2 0 0 0 (lo false n) 0,qp 4 2 0 0 0 (hi false n) 0,qp 23 0 1 2 0 0 0] (qdo h.i1 h.i2 h.i3) (by show p+1+3≤_;omega) e1
 have g2:GoTo E 1 0 (p+4) (ρ1,qbk (s.1 1) (wn n),s.2.2) (p+19) (ρ1,qbk (s.1 1) (wn n),s.2.2):=by
  refine qS ?_ (by omega) (GoTo.refl _ _ _)
  rw[qgS h.i4]
  show(bif qbV (qbk (s.1 1) (wn n)) 25 2 then _ else _)=_
  rw[qk1,decide_eq_true hv]
  rfl
 exact⟨_,g1.trans g2,rfl⟩
theorem qza (h:CLoop E p img n) (s:IS) (hv:s.1 1<wn n) (hn:wn n+wn img≤65536) :
  (E.okR (537133056+(s.1 1+wn img))=true→E.okW (537001984+s.1 1)=true→∃s',GoTo E 18 0 (p+1) s (p+1) s'∧s'.1 1=s.1 1+4∧s'.2.2=qcb s.2.2 (537001984+s.1 1) (s.2.2 (537133056+(s.1 1+wn img)))) ∧
  (E.okR (537133056+(s.1 1+wn img))=false∨E.okW (537001984+s.1 1)=false→∃k s',k≤14∧GoTo E k 0 (p+1) s E.h s'):=by
 have hh:=h.hb
 obtain⟨ρ1,e1,k1⟩:=qjI E n s
 have g1:=qfs [qp 3 2 0 0 0 (lo false n) 0,qp 4 2 0 0 0 (hi false n) 0,qp 23 0 1 2 0 0 0] (qdo h.i1 h.i2 h.i3) (by show p+1+3≤_;omega) e1
 have g2:GoTo E 1 0 (p+4) (ρ1,qbk (s.1 1) (wn n),s.2.2) (p+5) (ρ1,qbk (s.1 1) (wn n),s.2.2):=by
  refine qS ?_ (by omega) (GoTo.refl _ _ _)
  rw[qgS h.i4]
  show(bif qbV (qbk (s.1 1) (wn n)) 25 2 then _ else _)=_
  rw[qk1,decide_eq_false (by omega)]
  rfl
 have v1:ρ1 1=s.1 1:=k1 1 (by decide)
 generalize qbk (s.1 1) (wn n)=F at g1 g2
 obtain⟨ρ2,e2,w2,k2⟩:=qBl E img (ρ1,F,s.2.2) (by omega) (by show ρ1 1<_;omega)
 have w2:ρ2 4=ρ1 1+wn img:=w2
 have g3:=qfs (j:=p+5) [qp 3 3 0 0 0 (lo false img) 0,qp 14 4 1 3 0 0 0] (qxV h.i5 h.i6) (by show p+5+2≤_;omega) e2
 obtain⟨ρ3,e3,w3,k3⟩:=qlg E 5 4 537133056 (ρ2,F,s.2.2) (by decide) (by show ρ2 4<_;omega) (by decide)
 have w3:ρ3 5=wn 537133056+ρ2 4:=w3
 have g4:=qfs (j:=p+7) [qp 3 5 0 0 0 0 0,qp 4 5 0 0 0 (hi false 537133056) 0,qp 18 5 4 0 16 0 0] (qdo h.i7 h.i8 h.i9) (by show p+7+3≤_;omega) e3
 have r31:ρ3 1=s.1 1:=by
  rw[k3 1 (by decide)]
  show ρ2 1=_
  rw[k2 1 (by decide) (by decide)]
  exact v1
 obtain⟨ρ4,e4,w4,k4⟩:=qlg E 6 1 537001984 (ρ3,F,s.2.2) (by decide) (by show ρ3 1<_;omega) (by decide)
 have w4:ρ4 6=wn 537001984+ρ3 1:=w4
 have g5:=qfs (j:=p+10) [qp 3 6 0 0 0 0 0,qp 4 6 0 0 0 (hi false 537001984) 0,qp 18 6 1 0 16 0 0] (qdo h.i10 h.i11 h.i12) (by show p+10+3≤_;omega) e4
 have r45:ρ4 5=537133056+(s.1 1+wn img):=by
  rw[k4 5 (by decide)]
  show ρ3 5=_
  rw[w3,w2,v1]
  rfl
 have r46:ρ4 6=537001984+s.1 1:=by rw[w4,r31];rfl
 have r41:ρ4 1=s.1 1:=by
  rw[k4 1 (by decide)]
  exact r31
 have g:=(((g1.trans g2).trans g3).trans g4).trans g5
 have ld:E.okR (537133056+(s.1 1+wn img))=true→GoTo E 1 0 (p+13) (ρ4,F,s.2.2) (p+14) (qn ρ4 0 (s.2.2 (537133056+(s.1 1+wn img))),F,s.2.2):=fun hw=>by
  refine qS ?_ (by omega) (GoTo.refl _ _ _)
  rw[qbj h.i13,qoo]
  show(bif E.okR (ρ4 5) then(false,p+13+1,qn ρ4 0 (s.2.2 (ρ4 5)),F,s.2.2) else _)=_
  rw[r45,hw]
  rfl
 have q6:∀x:Nat,(qn ρ4 0 x) 6=537001984+s.1 1:=fun x=>(qba _ _ (by decide)).trans r46
 have q0:∀x:Nat,(qn ρ4 0 x) 0=x:=fun x=>qbL _ _ _
 constructor
 ·intro hr hw
  have g6:=ld hr
  generalize s.2.2 (537133056+(s.1 1+wn img))=x at *
  have g7:GoTo E 1 0 (p+14) (qn ρ4 0 x,F,s.2.2) (p+15) (qn ρ4 0 x,F,qcb s.2.2 (537001984+s.1 1) x):=by
   refine qS ?_ (by omega) (GoTo.refl _ _ _)
   rw[qbj h.i14,qls]
   show(bif E.okW ((qn ρ4 0 x) 6) then(false,p+14+1,qn ρ4 0 x,F,qcb s.2.2 ((qn ρ4 0 x) 6) ((qn ρ4 0 x) 0)) else _)=_
   rw[q6,hw,q0]
   rfl
  have r51:(qn ρ4 0 x) 1=s.1 1:=(qba _ _ (by decide)).trans r41
  obtain⟨ρ5,e5,w5⟩:=qsu E (qn ρ4 0 x,F,qcb s.2.2 (537001984+s.1 1) x) (by show(qn ρ4 0 x) 1<_;rw[r51];omega)
  have g8:=qfs (j:=p+15) [qp 3 3 0 0 0 4 0,qp 14 4 1 3 0 0 0,qp 5 1 0 4 0 0 0] (qdo h.i15 h.i16 h.i17) (by show p+15+3≤_;omega) e5
  have g9:GoTo E 1 0 (p+18) (ρ5,F,qcb s.2.2 (537001984+s.1 1) x) (p+1) (ρ5,F,qcb s.2.2 (537001984+s.1 1) x):=qS (qya h.i18 _) (by omega) (GoTo.refl _ _ _)
  exact⟨_,(((g.trans g6).trans g7).trans g8).trans g9,by
   show ρ5 1=_
   rw[w5]
   show(qn ρ4 0 x) 1+4=_
   rw[r51],rfl⟩
 ·intro hor
  cases hr:E.okR (537133056+(s.1 1+wn img))
  ·have g6:GoTo E 1 0 (p+13) (ρ4,F,s.2.2) E.h (ρ4,F,s.2.2):=by
    refine qS ?_ (by omega) (GoTo.refl _ _ _)
    rw[qbj h.i13,qoo]
    show(bif E.okR (ρ4 5) then _ else(false,E.h,ρ4,F,s.2.2))=_
    rw[r45,hr]
    rfl
   exact⟨13,_,by omega,g.trans g6⟩
  ·have hw:E.okW (537001984+s.1 1)=false:=by
    rcases hor with h' |h'
    ·rw[hr] at h';cases h'
    ·exact h'
   have g6:=ld hr
   generalize s.2.2 (537133056+(s.1 1+wn img))=x at *
   have g7:GoTo E 1 0 (p+14) (qn ρ4 0 x,F,s.2.2) E.h (qn ρ4 0 x,F,s.2.2):=by
    refine qS ?_ (by omega) (GoTo.refl _ _ _)
    rw[qbj h.i14,qls]
    show(bif E.okW ((qn ρ4 0 x) 6) then _ else(false,E.h,qn ρ4 0 x,F,s.2.2))=_
    rw[q6,hw]
    rfl
   exact⟨14,_,by omega,(g.trans g6).trans g7⟩
def qgO (W W':Nat→Nat):Prop:=∀a,a<537001984∨537067520≤a→W' a=W a
theorem qJS (h:CLoop E p img n) (hn:wn n+wn img≤65536):∀(m:Nat) (s:IS),wn n≤s.1 1+4*m→∃k j' s',k≤18*m+4∧GoTo E k 0 (p+1) s j' s'∧((j'=p+19∧qgO s.2.2 s'.2.2)∨j'=E.h)
 |0,s,hm=>by
  obtain⟨s',g,e⟩:=qzw h s (by omega)
  exact⟨4,_,s',by omega,g,.inl ⟨rfl,fun a _=>by rw[e]⟩⟩
 |m+1,s,hm=>by
  by_cases hv:wn n≤s.1 1
  ·obtain⟨s',g,e⟩:=qzw h s hv
   exact⟨4,_,s',by omega,g,.inl ⟨rfl,fun a _=>by rw[e]⟩⟩
  ·obtain⟨t1,t2⟩:=qza h s (by omega) hn
   by_cases hw:E.okR (537133056+(s.1 1+wn img))=true∧E.okW (537001984+s.1 1)=true
   ·obtain⟨s',g,v,e⟩:=t1 hw.1 hw.2
    obtain⟨k,j',s'',h1,h2,h3⟩:=qJS h hn m s' (by omega)
    refine⟨18+k,j',s'',by omega,by simpa using g.trans h2,?_⟩
    rcases h3 with⟨rfl,h3⟩ |h3
    ·refine .inl ⟨rfl,fun a ha=>?_⟩
     rw[h3 a ha,e,qcR _ _ (by omega)]
    ·exact .inr h3
   ·obtain⟨k,s',h1,g⟩:=t2 (by
     cases hr:E.okR (537133056+(s.1 1+wn img))
     ·exact .inl rfl
     ·right
      cases ho:E.okW (537001984+s.1 1)
      ·rfl
      ·exact(hw ⟨hr,ho⟩).elim)
    exact⟨k,_,s',by omega,g,.inr rfl⟩
theorem qy6 (h:CLoop E p img n) {I M:Nat} (hI:wn img=I) (hM:wn n=4*M) (hn:4*M+I≤65536) (hok:∀t,t<M→E.okW (537001984+4*t)=true∧E.okR (537133056+(4*t+I))=true):∀(d i:Nat) (s:IS),i+d=M→s.1 1=4*i →
  ∃s',GoTo E (18*d+4) 0 (p+1) s (p+19) s'∧(∀t,i≤t→t<M→s'.2.2 (537001984+4*t)=s.2.2 (537133056+(4*t+I)))∧∀a,(∀t,i≤t→t<M→a≠537001984+4*t)→s'.2.2 a=s.2.2 a
 |0,i,s,hd,hi=>by
  obtain⟨s',g,e⟩:=qzw h s (by omega)
  exact⟨s',g,fun t h1 h2=>by omega,fun a _=>by rw[e]⟩
 |d+1,i,s,hd,hi=>by
  obtain⟨t1,_⟩:=qza h s (by omega) (by omega)
  rw[hi,hI] at t1
  obtain⟨o1,o2⟩:=hok i (by omega)
  obtain⟨s1,g1,v1,w1⟩:=t1 o2 o1
  obtain⟨s2,g2,z2,k2⟩:=qy6 h hI hM hn hok d (i+1) s1 (by omega) (by omega)
  refine⟨s2,?_,fun t h1 h2=>?_,fun a ha=>?_⟩
  ·have:=g1.trans g2
   rw[show 18+(18*d+4)=18*(d+1)+4 by omega] at this
   exact this
  ·rcases Nat.lt_or_ge i t with h3 |h3
   ·rw[z2 t h3 h2,w1,qcR _ _ (by omega)]
   ·have:t=i:=by omega
    subst this
    rw[k2 _ (fun t' h4 _=>by omega),w1,qlb]
  ·rw[k2 a (fun t h4 h5=>ha t (by omega) h5),w1,qcR _ _ (ha i (Nat.le_refl _) (by omega))]
end
end Go.Av
end
section
namespace Go.Av
open Go
theorem qzU {E:Env} {j:Nat} {a:Int} (i0:E.P[j]?=some (.op (qp 19 2 a 0 0 0 0))) (i1:E.P[j+1]?=some (.op (qp 23 0 0 2 0 0 0))) (i2:E.P[j+2]?=some (.br 25 1 E.h)) (hb:j+2<E.h)
  (ρ:Int→Nat) (F:Flg) (W:Nat→Nat) (x ad:Nat) (h0:ρ 0=x) (ha:ρ a=ad) :
  (E.okR ad=true→x=W ad→∃F',GoTo E 3 0 j (ρ,F,W) (j+3) (qn ρ 2 (W ad),F',W)) ∧
  (E.okR ad=false∨x≠W ad→∃k s',k≤3∧GoTo E k 0 j (ρ,F,W) E.h s'∧s'.2.2=W):=by
 have ld:E.okR ad=true→GoTo E 2 0 j (ρ,F,W) (j+2) (qn ρ 2 (W ad),qbk x (W ad),W):=fun hr=>by
  refine qS (s1:=(qn ρ 2 (W ad),F,W)) (j1:=j+1) ?_ (by omega) (qS (s1:=(qn ρ 2 (W ad),qbk x (W ad),W)) (j1:=j+2) ?_ (by omega) (GoTo.refl _ _ _))
  ·rw[qbj i0,qoo]
   show(bif E.okR (ρ a) then(false,j+1,qn ρ 2 (W (ρ a)),F,W) else _)=_
   rw[ha,hr]
   rfl
  ·rw[qbj i1,qDK]
   have e0:(qn ρ 2 (W ad)) 0=x:=(qba _ _ (by decide)).trans h0
   have e2:(qn ρ 2 (W ad)) 2=W ad:=qbL _ _ _
   show(false,j+1+1,qn ρ 2 (W ad),qbk ((qn ρ 2 (W ad)) 0) ((qn ρ 2 (W ad)) 2),W)=_
   rw[e0,e2]
 have br:∀ρ' F' W',qN E false (j+2) (ρ',F',W')=bif qbV F' 25 1 then(false,E.h,ρ',F',W') else(false,j+2+1,ρ',F',W'):=fun ρ' F' W'=>qgS i2 _
 constructor
 ·intro hr hx
  refine⟨qbk x (W ad),(ld hr).trans (qS ?_ (by omega) (GoTo.refl _ _ _))⟩
  rw[br,qrG,show(x != W ad)=false by simp[hx]]
  rfl
 ·intro hor
  cases hr:E.okR ad
  ·refine⟨1,(ρ,F,W),by omega,qS ?_ (by omega) (GoTo.refl _ _ _),rfl⟩
   rw[qbj i0,qoo]
   show(bif E.okR (ρ a) then _ else(false,E.h,ρ,F,W))=_
   rw[ha,hr]
   rfl
  ·have hx:x≠W ad:=by
    rcases hor with h' |h'
    ·rw[hr] at h';cases h'
    ·exact h'
   refine⟨3,(qn ρ 2 (W ad),qbk x (W ad),W),by omega,(ld hr).trans (qS ?_ (by omega) (GoTo.refl _ _ _)),rfl⟩
   rw[br,qrG,show(x != W ad)=true by simp[hx]]
   rfl
section
variable {E:Env} {p:Nat} {img n:Int}
theorem qzB (h:VLoop E p img n) (s:IS) (hv:wn n≤s.1 1):∃s',GoTo E 4 0 (p+1) s (p+27) s'∧s'.2.2=s.2.2:=by
 obtain⟨ρ1,e1,_⟩:=qjI E n s
 have hb:=h.hb
 have g1:=qfs [qp 3 2 0 0 0 (lo false n) 0,qp 4 2 0 0 0 (hi false n) 0,qp 23 0 1 2 0 0 0] (qdo h.i1 h.i2 h.i3) (by show p+1+3≤_;omega) e1
 have g2:GoTo E 1 0 (p+4) (ρ1,qbk (s.1 1) (wn n),s.2.2) (p+27) (ρ1,qbk (s.1 1) (wn n),s.2.2):=by
  refine qS ?_ (by omega) (GoTo.refl _ _ _)
  rw[qgS h.i4]
  show(bif qbV (qbk (s.1 1) (wn n)) 25 2 then _ else _)=_
  rw[qk1,decide_eq_true hv]
  rfl
 exact⟨_,g1.trans g2,rfl⟩
theorem qGG (h:VLoop E p img n) (s:IS) (hv:s.1 1<wn n) (hn:wn n+wn img≤65536) :
  ((E.okR (537001984+s.1 1)=true∧(E.okR (537133056+(s.1 1+wn img))=true∧s.2.2 (537001984+s.1 1)=s.2.2 (537133056+(s.1 1+wn img)))∧E.okR (537395200+(s.1 1+wn img))=true∧s.2.2 (537001984+s.1 1)=s.2.2 (537395200+(s.1 1+wn img))) →
   ∃s',GoTo E 26 0 (p+1) s (p+1) s'∧s'.1 1=s.1 1+4∧s'.2.2=s.2.2) ∧
  (¬(E.okR (537001984+s.1 1)=true∧(E.okR (537133056+(s.1 1+wn img))=true∧s.2.2 (537001984+s.1 1)=s.2.2 (537133056+(s.1 1+wn img)))∧E.okR (537395200+(s.1 1+wn img))=true∧s.2.2 (537001984+s.1 1)=s.2.2 (537395200+(s.1 1+wn img))) →
   ∃k s',k≤22∧GoTo E k 0 (p+1) s E.h s'∧s'.2.2=s.2.2):=by
 have hh:=h.hb
 obtain⟨ρ1,e1,k1⟩:=qjI E n s
 have g1:=qfs [qp 3 2 0 0 0 (lo false n) 0,qp 4 2 0 0 0 (hi false n) 0,qp 23 0 1 2 0 0 0] (qdo h.i1 h.i2 h.i3) (by show p+1+3≤_;omega) e1
 have g2:GoTo E 1 0 (p+4) (ρ1,qbk (s.1 1) (wn n),s.2.2) (p+5) (ρ1,qbk (s.1 1) (wn n),s.2.2):=by
  refine qS ?_ (by omega) (GoTo.refl _ _ _)
  rw[qgS h.i4]
  show(bif qbV (qbk (s.1 1) (wn n)) 25 2 then _ else _)=_
  rw[qk1,decide_eq_false (by omega)]
  rfl
 have v1:ρ1 1=s.1 1:=k1 1 (by decide)
 generalize qbk (s.1 1) (wn n)=F at g1 g2
 obtain⟨ρ2,e2,w2,k2⟩:=qBl E img (ρ1,F,s.2.2) (by omega) (by show ρ1 1<_;omega)
 have w2:ρ2 4=ρ1 1+wn img:=w2
 have g3:=qfs (j:=p+5) [qp 3 3 0 0 0 (lo false img) 0,qp 14 4 1 3 0 0 0] (qxV h.i5 h.i6) (by show p+5+2≤_;omega) e2
 obtain⟨ρ3,e3,w3,k3⟩:=qlg E 5 4 537133056 (ρ2,F,s.2.2) (by decide) (by show ρ2 4<_;omega) (by decide)
 have w3:ρ3 5=wn 537133056+ρ2 4:=w3
 have g4:=qfs (j:=p+7) [qp 3 5 0 0 0 0 0,qp 4 5 0 0 0 (hi false 537133056) 0,qp 18 5 4 0 16 0 0] (qdo h.i7 h.i8 h.i9) (by show p+7+3≤_;omega) e3
 have r34:ρ3 4=s.1 1+wn img:=by
  rw[k3 4 (by decide)]
  show ρ2 4=_
  rw[w2,v1]
 obtain⟨ρ4,e4,w4,k4⟩:=qlg E 7 4 537395200 (ρ3,F,s.2.2) (by decide) (by show ρ3 4<_;omega) (by decide)
 have w4:ρ4 7=wn 537395200+ρ3 4:=w4
 have g5:=qfs (j:=p+10) [qp 3 7 0 0 0 0 0,qp 4 7 0 0 0 (hi false 537395200) 0,qp 18 7 4 0 16 0 0] (qdo h.i10 h.i11 h.i12) (by show p+10+3≤_;omega) e4
 have r41:ρ4 1=s.1 1:=by
  rw[k4 1 (by decide)]
  show ρ3 1=_
  rw[k3 1 (by decide)]
  show ρ2 1=_
  rw[k2 1 (by decide) (by decide)]
  exact v1
 obtain⟨ρ5,e5,w5,k5⟩:=qlg E 6 1 537001984 (ρ4,F,s.2.2) (by decide) (by show ρ4 1<_;omega) (by decide)
 have w5:ρ5 6=wn 537001984+ρ4 1:=w5
 have g6:=qfs (j:=p+13) [qp 3 6 0 0 0 0 0,qp 4 6 0 0 0 (hi false 537001984) 0,qp 18 6 1 0 16 0 0] (qdo h.i13 h.i14 h.i15) (by show p+13+3≤_;omega) e5
 have r56:ρ5 6=537001984+s.1 1:=by rw[w5,r41];rfl
 have r55:ρ5 5=537133056+(s.1 1+wn img):=by
  rw[k5 5 (by decide)]
  show ρ4 5=_
  rw[k4 5 (by decide)]
  show ρ3 5=_
  rw[w3,w2,v1]
  rfl
 have r57:ρ5 7=537395200+(s.1 1+wn img):=by
  rw[k5 7 (by decide)]
  show ρ4 7=_
  rw[w4,r34]
  rfl
 have r51:ρ5 1=s.1 1:=by
  rw[k5 1 (by decide)]
  exact r41
 have g:=((((g1.trans g2).trans g3).trans g4).trans g5).trans g6
 generalize 537133056+(s.1 1+wn img)=A at *
 generalize 537395200+(s.1 1+wn img)=B at *
 obtain⟨x,hx⟩:∃x,x=s.2.2 (537001984+s.1 1):=⟨_,rfl⟩
 have ld:E.okR (537001984+s.1 1)=true→GoTo E 1 0 (p+16) (ρ5,F,s.2.2) (p+17) (qn ρ5 0 x,F,s.2.2):=fun hw=>by
  refine qS ?_ (by omega) (GoTo.refl _ _ _)
  rw[qbj h.i16,qoo]
  show(bif E.okR (ρ5 6) then(false,p+16+1,qn ρ5 0 (s.2.2 (ρ5 6)),F,s.2.2) else _)=_
  rw[r56,hw,←hx]
  rfl
 have a0:(qn ρ5 0 x) 0=x:=qbL _ _ _
 have a5:(qn ρ5 0 x) 5=A:=(qba _ _ (by decide)).trans r55
 have a7:(qn ρ5 0 x) 7=B:=(qba _ _ (by decide)).trans r57
 have a1:(qn ρ5 0 x) 1=s.1 1:=(qba _ _ (by decide)).trans r51
 generalize qn ρ5 0 x=ρ6 at *
 obtain⟨c1,c2⟩:=qzU h.i17 h.i18 h.i19 (by omega) ρ6 F s.2.2 x A a0 a5
 have b0:(qn ρ6 2 (s.2.2 A)) 0=x:=(qba _ _ (by decide)).trans a0
 have b7:(qn ρ6 2 (s.2.2 A)) 7=B:=(qba _ _ (by decide)).trans a7
 have b1:(qn ρ6 2 (s.2.2 A)) 1=s.1 1:=(qba _ _ (by decide)).trans a1
 generalize qn ρ6 2 (s.2.2 A)=ρ7 at *
 rw[←hx]
 constructor
 ·rintro⟨ho,⟨ha,xa⟩,hb,xb⟩
  obtain⟨F1,g7⟩:=c1 ha xa
  obtain⟨d1,_⟩:=qzU h.i20 h.i21 h.i22 (by omega) ρ7 F1 s.2.2 x B b0 b7
  obtain⟨F2,g8⟩:=d1 hb xb
  have f1:(qn ρ7 2 (s.2.2 B)) 1=s.1 1:=(qba _ _ (by decide)).trans b1
  obtain⟨ρ8,e8,w8⟩:=qsu E (qn ρ7 2 (s.2.2 B),F2,s.2.2) (by show(qn ρ7 2 (s.2.2 B)) 1<_;rw[f1];omega)
  have g9:=qfs (j:=p+23) [qp 3 3 0 0 0 4 0,qp 14 4 1 3 0 0 0,qp 5 1 0 4 0 0 0] (qdo h.i23 h.i24 h.i25) (by show p+23+3≤_;omega) e8
  have g10:GoTo E 1 0 (p+26) (ρ8,F2,s.2.2) (p+1) (ρ8,F2,s.2.2):=qS (qya h.i26 _) (by omega) (GoTo.refl _ _ _)
  exact⟨_,(((((g.trans (ld ho)).trans g7).trans g8).trans g9).trans g10),by
   show ρ8 1=_
   rw[w8]
   show(qn ρ7 2 (s.2.2 B)) 1+4=_
   rw[f1],rfl⟩
 ·intro hno
  cases ho:E.okR (537001984+s.1 1)
  ·have g7:GoTo E 1 0 (p+16) (ρ5,F,s.2.2) E.h (ρ5,F,s.2.2):=by
    refine qS ?_ (by omega) (GoTo.refl _ _ _)
    rw[qbj h.i16,qoo]
    show(bif E.okR (ρ5 6) then _ else(false,E.h,ρ5,F,s.2.2))=_
    rw[r56,ho]
    rfl
   exact⟨16,_,by omega,g.trans g7,rfl⟩
  ·by_cases ha:E.okR A=true∧x=s.2.2 A
   ·obtain⟨F1,g7⟩:=c1 ha.1 ha.2
    obtain⟨_,d2⟩:=qzU h.i20 h.i21 h.i22 (by omega) ρ7 F1 s.2.2 x B b0 b7
    obtain⟨k,s',hk,g8,e⟩:=d2 (by
     cases hb:E.okR B
     ·exact .inl rfl
     ·exact .inr fun xb=>hno ⟨ho,ha,hb,xb⟩)
    exact⟨_,s',(by show 15+1+3+k≤22;omega),((g.trans (ld ho)).trans g7).trans g8,e⟩
   ·obtain⟨k,s',hk,g8,e⟩:=c2 (by
     cases hb:E.okR A
     ·exact .inl rfl
     ·exact .inr fun xb=>ha ⟨hb,xb⟩)
    exact⟨_,s',(by show 15+1+k≤22;omega),(g.trans (ld ho)).trans g8,e⟩
end
end Go.Av
end
section
namespace Go.Av
open Go
def EqT (I:Nat) (W:Nat→Nat) (t:Nat):Prop:=W (537001984+4*t)=W (537133056+(4*t+I))∧W (537001984+4*t)=W (537395200+(4*t+I))
section
variable {E:Env} {p:Nat} {img n:Int}
theorem qLo (h:VLoop E p img n) (hn:wn n+wn img≤65536):∀(m:Nat) (s:IS),wn n≤s.1 1+4*m→∃k j' s',k≤26*m+4∧GoTo E k 0 (p+1) s j' s'∧s'.2.2=s.2.2∧(j'=p+27∨j'=E.h)
 |0,s,hm=>by
  obtain⟨s',g,e⟩:=qzB h s (by omega)
  exact⟨4,_,s',by omega,g,e,.inl rfl⟩
 |m+1,s,hm=>by
  by_cases hv:wn n≤s.1 1
  ·obtain⟨s',g,e⟩:=qzB h s hv
   exact⟨4,_,s',by omega,g,e,.inl rfl⟩
  ·obtain⟨t1,t2⟩:=qGG h s (by omega) hn
   by_cases hw:E.okR (537001984+s.1 1)=true∧(E.okR (537133056+(s.1 1+wn img))=true∧s.2.2 (537001984+s.1 1)=s.2.2 (537133056+(s.1 1+wn img)))∧E.okR (537395200+(s.1 1+wn img))=true∧s.2.2 (537001984+s.1 1)=s.2.2 (537395200+(s.1 1+wn img))
   ·obtain⟨s',g,v,e⟩:=t1 hw
    obtain⟨k,j',s'',h1,h2,h3,h4⟩:=qLo h hn m s' (by omega)
    exact⟨26+k,j',s'',by omega,by simpa using g.trans h2,by rw[h3,e],h4⟩
   ·obtain⟨k,s',h1,g,e⟩:=t2 hw
    exact⟨k,_,s',by omega,g,e,.inr rfl⟩
theorem qCv (h:VLoop E p img n) {I M:Nat} (hI:wn img=I) (hM:wn n=4*M) (hn:4*M+I≤65536) (hok:∀t,t<M→E.okR (537001984+4*t)=true∧E.okR (537133056+(4*t+I))=true∧E.okR (537395200+(4*t+I))=true):∀(d i:Nat) (s:IS),i+d=M→s.1 1=4*i →
  ((∀t,i≤t→t<M→EqT I s.2.2 t)→∃s',GoTo E (26*d+4) 0 (p+1) s (p+27) s'∧s'.2.2=s.2.2) ∧
  ((∃t,i≤t∧t<M∧¬EqT I s.2.2 t)→∃k s',k≤26*d+4∧GoTo E k 0 (p+1) s E.h s'∧s'.2.2=s.2.2)
 |0,i,s,hd,hi=>by
  constructor
  ·intro _
   exact qzB h s (by omega)
  ·rintro⟨t,h1,h2,_⟩
   omega
 |d+1,i,s,hd,hi=>by
  obtain⟨t1,t2⟩:=qGG h s (by omega) (by omega)
  rw[hi,hI] at t1 t2
  obtain⟨o1,o2,o3⟩:=hok i (by omega)
  constructor
  ·intro hz
   obtain⟨e1,e2⟩:=hz i (Nat.le_refl _) (by omega)
   obtain⟨s1,g1,v1,w1⟩:=t1 ⟨o1,⟨o2,e1⟩,o3,e2⟩
   obtain⟨s2,g2,w2⟩:=(qCv h hI hM hn hok d (i+1) s1 (by omega) (by omega)).1 (fun t h1 h2=>by rw[w1];exact hz t (by omega) h2)
   refine⟨s2,?_,by rw[w2,w1]⟩
   have:=g1.trans g2
   rw[show 26+(26*d+4)=26*(d+1)+4 by omega] at this
   exact this
  ·rintro⟨t,h1,h2,hne⟩
   by_cases he:EqT I s.2.2 i
   ·obtain⟨s1,g1,v1,w1⟩:=t1 ⟨o1,⟨o2,he.1⟩,o3,he.2⟩
    have hti:i≠t:=fun e=>hne (e▸he)
    obtain⟨k,s2,hk,g2,w2⟩:=(qCv h hI hM hn hok d (i+1) s1 (by omega) (by omega)).2 ⟨t,by omega,h2,by rw[w1];exact hne⟩
    exact⟨26+k,s2,by omega,by simpa using g1.trans g2,by rw[w2,w1]⟩
   ·obtain⟨k,s',hk,g,e⟩:=t2 (fun hx=>he ⟨hx.2.1.2,hx.2.2.2⟩)
    exact⟨k,s',by omega,g,e⟩
end
end Go.Av
end
section
namespace Go.Av
open Go
def qmM (i o r:Nat) (b:Bool):List qk.den:=qtO false b b (i:Int) (o:Int) 0 20++qqY o r b
def qj5 (i o r n:Nat) (b:Bool):Env:=qiM (qmM i o r b) o r n
def qv4 (b:Bool):Nat:=bif b then 46 else 19
theorem qog (i o r n:Nat) (b:Bool):(qj5 i o r n b).h=qv4 b+(bif b then 7 else 6):=by
 cases b
 ·kernel_rfl
 ·kernel_rfl
theorem qJp (i o r n:Nat) (b:Bool):CLoop (qj5 i o r n b) 0 i o:=by
 cases b
 ·exact⟨by kernel_rfl,by kernel_rfl,by kernel_rfl,by kernel_rfl,by kernel_rfl,by kernel_rfl,by kernel_rfl,by kernel_rfl,by kernel_rfl,by kernel_rfl,by kernel_rfl,by kernel_rfl,by kernel_rfl,by kernel_rfl,by kernel_rfl,by kernel_rfl,by kernel_rfl,by kernel_rfl,by kernel_rfl,by rw[qog];decide⟩
 ·exact⟨by kernel_rfl,by kernel_rfl,by kernel_rfl,by kernel_rfl,by kernel_rfl,by kernel_rfl,by kernel_rfl,by kernel_rfl,by kernel_rfl,by kernel_rfl,by kernel_rfl,by kernel_rfl,by kernel_rfl,by kernel_rfl,by kernel_rfl,by kernel_rfl,by kernel_rfl,by kernel_rfl,by kernel_rfl,by rw[qog];decide⟩
theorem qJj (i o r n:Nat):VLoop (qj5 i o r n true) 19 i o :=
 ⟨by kernel_rfl,by kernel_rfl,by kernel_rfl,by kernel_rfl,by kernel_rfl,by kernel_rfl,by kernel_rfl,by kernel_rfl,by kernel_rfl,by kernel_rfl,by kernel_rfl,by kernel_rfl,by kernel_rfl,by kernel_rfl,by kernel_rfl,by kernel_rfl,by kernel_rfl,by kernel_rfl,by kernel_rfl,by kernel_rfl,by kernel_rfl,by kernel_rfl,by kernel_rfl,by kernel_rfl,by kernel_rfl,by kernel_rfl,by kernel_rfl,by rw[qog];decide⟩
structure QEnd (E:Env) (q:Nat):Prop where
 e0:E.P[q]?=some (.op (qp 3 5 0 0 0 (lo false 537919488) 0))
 e1:E.P[q+1]?=some (.op (qp 4 5 0 0 0 (hi false 537919488) 0))
 e2:E.P[q+2]?=some (.op (qp 3 0 0 0 0 (lo false 3235799053) 0))
 e3:E.P[q+3]?=some (.op (qp 4 0 0 0 0 (hi false 3235799053) 0))
 e4:E.P[q+4]?=some (.op (qp 20 0 5 0 0 0 0))
 e5:E.P[q+5]?=some (.op (qp 2 0 0 0 0 0 0))
 hb:q+5<E.h
theorem qQq (i o r n:Nat) (b:Bool):QEnd (qj5 i o r n b) (qv4 b):=by
 cases b
 ·exact⟨by kernel_rfl,by kernel_rfl,by kernel_rfl,by kernel_rfl,by kernel_rfl,by kernel_rfl,by rw[qog];decide⟩
 ·exact⟨by kernel_rfl,by kernel_rfl,by kernel_rfl,by kernel_rfl,by kernel_rfl,by kernel_rfl,by rw[qog];decide⟩
theorem qbD {E E':Env} {m j:Nat} (hp:Part E E' m) {i:qA.den} (h:E'.P[j]?=some (.op i)):E.P[m+j]?=some (.op i):=by
 rw[hp.prg,h]
 rfl
theorem qre {E E':Env} {m j t:Nat} {o c:Int} (hp:Part E E' m) (h:E'.P[j]?=some (.br o c t)):E.P[m+j]?=some (.br o c (m+t)):=by
 rw[hp.prg,h]
 rfl
theorem qDw {E E':Env} {m p:Nat} {base n:Int} (hp:Part E E' m) (h:WLoop E' p base n):WLoop E (m+p) base n :=
 ⟨qbD hp h.i0,qbD hp h.i1,qbD hp h.i2,qbD hp h.i3,qre (m:=m) (j:=p+4) hp h.i4,qbD hp h.i5,qbD hp h.i6,qbD hp h.i7,qbD hp h.i8,qbD hp h.i9,qbD hp h.i10,qbD hp h.i11,qbD hp h.i12,qre (m:=m) (j:=p+13) hp h.i13,by have:=h.hb;rw[hp.h];omega⟩
theorem qCK {E E':Env} {m p:Nat} {base n:Int} (hp:Part E E' m) (h:LLoop E' p base n):LLoop E (m+p) base n :=
 ⟨qbD hp h.i0,qbD hp h.i1,qbD hp h.i2,qbD hp h.i3,qre (m:=m) (j:=p+4) hp h.i4,qbD hp h.i5,qbD hp h.i6,qbD hp h.i7,qbD hp h.i8,qbD hp h.i9,qbD hp h.i10,by rw[hp.h];exact qre hp h.i11,qbD hp h.i12,qbD hp h.i13,qbD hp h.i14,qre (m:=m) (j:=p+15) hp h.i15,by have:=h.hb;rw[hp.h];omega⟩
theorem qKu {E E':Env} {m mo mr:Nat} (hp:Part E E' m) (H:HandAt E' mo mr):HandAt E mo mr:=by
 have hh:=hp.h
 have ho:E.o=E'.o:=hp.o
 have hr:E.r=E'.r:=hp.r
 refine⟨by rw[hp.o];exact H.so,by rw[hp.r];exact H.sr,by rw[hp.o,hp.r,hp.n];exact H.sz,?_,?_,?_,?_,?_,?_,?_,?_,?_,?_,?_,?_,?_,?_,?_,?_,?_,?_,?_,?_,?_,?_⟩<;>rw[hh]
 ·exact qbD hp H.b0
 ·exact qbD hp H.b1
 ·exact qbD hp H.b2
 ·exact qbD hp H.b3
 ·rw[ho];exact qDw (m:=m) (p:=E'.h+4) hp H.w0
 ·rw[hr];exact qDw (m:=m) (p:=E'.h+18) hp H.w1
 ·rw[hr];exact qDw (m:=m) (p:=E'.h+32) hp H.w2
 ·rw[ho];exact qCK (m:=m) (p:=E'.h+46) hp H.l0
 ·rw[hr];exact qCK (m:=m) (p:=E'.h+62) hp H.l1
 ·rw[hr];exact qCK (m:=m) (p:=E'.h+78) hp H.l2
 ·exact qbD hp H.e0
 ·exact qbD hp H.e1
 ·exact qbD hp H.e2
 ·exact qbD hp H.e3
 ·exact qbD hp H.e4
 ·exact qre (m:=m) (j:=E'.h+99) hp H.e5
 ·exact qbD hp H.e6
 ·exact qbD hp H.e7
 ·exact qbD hp H.e8
 ·exact qbD hp H.e9
 ·exact qbD hp H.e10
 ·exact qbD hp H.e11
theorem qKG (i o r n:Nat) (b:Bool):(qj5 i o r n b).P.drop (qv4 b+(bif b then 7 else 6))=(qN0 o r b).map (qx2 (qv4 b+(bif b then 7 else 6))):=by
 cases b
 ·kernel_rfl
 ·kernel_rfl
theorem qKe (i o r n:Nat) (b:Bool):Part (qj5 i o r n b) (qqS o r n b) (qv4 b+(bif b then 7 else 6)):=by
 refine⟨fun j=>?_,rfl,rfl,rfl,qog i o r n b⟩
 rw[←List.getElem?_drop,qKG,List.getElem?_map]
 rfl
theorem qvn (i mo mr n:Nat) (b:Bool) (hs:SzOk (4*mo) (4*mr) n):HandAt (qj5 i (4*mo) (4*mr) n b) mo mr :=
 qKu (qKe i (4*mo) (4*mr) n b) (qOo mo mr n b hs)
theorem qsX {E:Env} {p:Nat} (h0:E.P[p]?=some (.op (qp 3 1 0 0 0 0 0))) (hb:p≠E.h) (s:IS):GoTo E 1 0 p s (p+1) (qn s.1 1 0,s.2) :=
 qS (by rw[qbj h0];rfl) hb (GoTo.refl _ _ _)
theorem qSc {E:Env} {q:Nat} (Q:QEnd E q) (hw:E.okW 537919488=true) (s:IS):∃s',Ends E 6 0 q s (q+5) s'∧s'.2.2=qcb s.2.2 537919488 3235799053:=by
 have hb:=Q.hb
 obtain⟨ρ1,e1,v1,_⟩:=qlY E 5 537919488 s
 obtain⟨ρ2,e2,v2,k2⟩:=qlY E 0 3235799053 (ρ1,s.2)
 have g1:=qi1 (j:=q) [qp 3 5 0 0 0 (lo false 537919488) 0,qp 4 5 0 0 0 (hi false 537919488) 0] _ _ (qxV Q.e0 Q.e1) (fun i hi=>by
  have hi:i<2:=hi
  omega) e1
 have g2:=qi1 (j:=q+2) [qp 3 0 0 0 0 (lo false 3235799053) 0,qp 4 0 0 0 0 (hi false 3235799053) 0] _ _ (qxV Q.e2 Q.e3) (fun i hi=>by
  have hi:i<2:=hi
  omega) e2
 have r5:ρ2 5=537919488:=(k2 5 (by decide)).trans v1
 have r0:ρ2 0=3235799053:=v2
 have g3:GoTo E 1 0 (q+4) (ρ2,s.2) (q+5) (ρ2,s.2.1,qcb s.2.2 537919488 3235799053):=by
  refine qS ?_ (by omega) (GoTo.refl _ _ _)
  rw[qbj Q.e4,qls]
  show(bif E.okW (ρ2 5) then(false,q+4+1,ρ2,s.2.1,qcb s.2.2 (ρ2 5) (ρ2 0)) else _)=_
  rw[r5,hw,r0]
  rfl
 have g4:Ends E 1 0 (q+5) (ρ2,s.2.1,qcb s.2.2 537919488 3235799053) (q+5) (ρ2,s.2.1,qcb s.2.2 537919488 3235799053):=by
  have:=qvV (E:=E) (j:=q+5) (s:=(ρ2,s.2.1,qcb s.2.2 537919488 3235799053)) (j':=q+5) (s':=(ρ2,s.2.1,qcb s.2.2 537919488 3235799053)) (by rw[qbj Q.e5];rfl)
  rw[beq_eq_false_iff_ne.2 (show q+5≠E.h by omega)] at this
  exact this
 exact⟨_,((g1.trans g2).trans g3).ends g4,rfl⟩
section
variable {I mo mr n:Nat} {b:Bool} (hs:SzOk (4*mo) (4*mr) n) (hI:I+mo≤mr)
include hs hI
theorem qQO (s:IS):∃s',GoTo (qj5 (4*I) (4*mo) (4*mr) n b) (18*mo+5) 0 0 s 19 s'∧(∀t,t<mo→s'.2.2 (537001984+4*t)=s.2.2 (537133056+4*(I+t)))∧∀a,(∀t,t<mo→a≠537001984+4*t)→s'.2.2 a=s.2.2 a:=by
 have H:=qvn (4*I) mo mr n b hs
 have C:=qJp (4*I) (4*mo) (4*mr) n b
 have hr:=hs.rail
 have ho:=hs.out
 have n1:wn ((4*I:Nat):Int)=4*I:=qc1 (by omega)
 have n2:wn ((4*mo:Nat):Int)=4*mo:=qc1 (by omega)
 have hh:=qog (4*I) (4*mo) (4*mr) n b
 have f0:=qsX C.i0 (by rw[hh];cases b<;>decide) s
 obtain⟨s1,g1,z1,k1⟩:=qy6 C n1 n2 (by omega) (fun t ht=>⟨(qxO H ht).1,by
  rw[show 4*t+4*I=4*(I+t) by omega]
  exact(h_a H (by omega)).2⟩) mo 0 (qn s.1 1 0,s.2) (by omega) (qj0 s)
 refine⟨s1,?_,fun t ht=>?_,fun a ha=>k1 a (fun t _ ht=>ha t ht)⟩
 ·have:=f0.trans g1
  rw[show 1+(18*mo+4)=18*mo+5 by omega] at this
  exact this
 ·rw[z1 t (Nat.zero_le _) ht,show 4*t+4*I=4*(I+t) by omega]
theorem qJM (s:IS) :
  ((∀t,t<mo→s.2.2 (537001984+4*t)=s.2.2 (537133056+4*(I+t))∧s.2.2 (537001984+4*t)=s.2.2 (537395200+4*(I+t)))→∃s',GoTo (qj5 (4*I) (4*mo) (4*mr) n true) (26*mo+5) 0 19 s 46 s'∧s'.2.2=s.2.2) ∧
  ((∃t,t<mo∧¬(s.2.2 (537001984+4*t)=s.2.2 (537133056+4*(I+t))∧s.2.2 (537001984+4*t)=s.2.2 (537395200+4*(I+t))))→∃k s',k≤26*mo+5∧GoTo (qj5 (4*I) (4*mo) (4*mr) n true) k 0 19 s 53 s'∧s'.2.2=s.2.2):=by
 have H:=qvn (4*I) mo mr n true hs
 have C:=qJj (4*I) (4*mo) (4*mr) n
 have hr:=hs.rail
 have ho:=hs.out
 have n1:wn ((4*I:Nat):Int)=4*I:=qc1 (by omega)
 have n2:wn ((4*mo:Nat):Int)=4*mo:=qc1 (by omega)
 have hh:(qj5 (4*I) (4*mo) (4*mr) n true).h=53:=qog (4*I) (4*mo) (4*mr) n true
 have f0:=qsX C.i0 (by rw[hh];decide) s
 obtain⟨a1,a2⟩:=qCv C n1 n2 (by omega) (fun t ht=>⟨(qxO H ht).2,by
  rw[show 4*t+4*I=4*(I+t) by omega]
  exact(h_a H (by omega)).2,by
  rw[show 4*t+4*I=4*(I+t) by omega]
  exact(h_b H (by omega)).2⟩) mo 0 (qn s.1 1 0,s.2) (by omega) (qj0 s)
 have eq:∀t,EqT (4*I) s.2.2 t↔s.2.2 (537001984+4*t)=s.2.2 (537133056+4*(I+t))∧s.2.2 (537001984+4*t)=s.2.2 (537395200+4*(I+t)):=fun t=>by
  unfold EqT
  rw[show 4*t+4*I=4*(I+t) by omega]
 constructor
 ·intro hz
  obtain⟨s1,g1,w1⟩:=a1 (fun t _ ht=>(eq t).2 (hz t ht))
  refine⟨s1,?_,w1⟩
  have:=f0.trans g1
  rw[show 1+(26*mo+4)=26*mo+5 by omega] at this
  exact this
 ·rintro⟨t,ht,hne⟩
  obtain⟨k,s1,hk,g1,w1⟩:=a2 ⟨t,Nat.zero_le _,ht,fun he=>hne ((eq t).1 he)⟩
  rw[hh] at g1
  exact⟨1+k,s1,by omega,f0.trans g1,w1⟩
end
end Go.Av
end
section
namespace Go.Av
open Go
section
variable {E:Env} {mo mr:Nat} (H:HandAt E mo mr)
include H
end
end Go.Av
end
section
namespace Go.Av
open Go
def qDN (a:Nat):Bool:=a % 4 != 0||((decide (a<537001984)||decide (537067520≤a))&&((decide (a<537133056)||decide (537198592≤a))&&((decide (a<537395200)||decide (537460736≤a))&&(!inW 537919488 4 a&&!inW 538968064 4 a))))
theorem qRg {o r n a:Nat} (hs:SzOk o r n) (h:qDN a=true):(qdf o r a).isSome=false:=by
 have ho:=hs.out
 have hr:=hs.rail
 unfold qDN at h
 unfold qdf
 cases hm:(a % 4 != 0)
 ·rw[hm,Bool.false_or] at h
  simp only[Bool.and_eq_true,Bool.or_eq_true,decide_eq_true_eq,Bool.not_eq_true'] at h
  obtain⟨h1,h2,h3,h4,h5⟩:=h
  rw[show inW 537001984 o a=false from decide_eq_false (by omega),show inW 537133056 r a=false from decide_eq_false (by omega),show inW 537395200 r a=false from decide_eq_false (by omega),h4,h5]
  rfl
 ·rfl
theorem qL7:qDN 0=true:=rfl
theorem qOO (f:qX.den) (s:IS) (k:Int):(qbE f s).1 k=s.1 k∨∃b,b<32∧(qbE f s).1 k=s.1 k ^^^ 2 ^ b:=by
 unfold qbE
 cases (f.1==(2:Int))
 ·cases (f.1==(3:Int))<;>exact .inl rfl
 ·by_cases e:k=f.2.2.1
  ·right
   refine⟨kk f.2.2.2.1,qv7 _,?_⟩
   show qn s.1 f.2.2.1 (s.1 f.2.2.1 ^^^ 2 ^ kk f.2.2.2.1) k=_
   rw[e]
   exact qbL s.1 f.2.2.1 _
  ·left
   exact qba s.1 (k:=f.2.2.1) (j:=k) _ e
theorem qhD (f:qX.den) (s:IS):(qbE f s).2.2=s.2.2:=by
 unfold qbE
 cases (f.1==(2:Int))
 ·cases (f.1==(3:Int))<;>rfl
 ·rfl
theorem qPY (f:qX.den) (s:IS) (h:(f.1==(1:Int))=true):qbE f s=s:=by
 have:f.1=(1:Int):=by simpa using h
 unfold qbE
 rw[this]
 rfl
theorem step_skip {E:Env} {j:Nat} {p:PI} (h:E.P[j]?=some p) (s:IS):qN E true j s=(false,j+1,s):=by
 unfold qN
 rw[h]
 rfl
section
variable {E:Env} {mo mr:Nat} (H:HandAt E mo mr)
include H
end
end Go.Av
end
section
namespace Go.Av
open Go
def quR (E:Env) (j:Nat):Bool:=match E.P[j]? with
 |some (.op i)=>!(i.1==2)
 |_=>true
theorem qGu {E:Env} {j:Nat} (h:quR E j=true) (sk:Bool) (s:IS):(qN E sk j s).1=false:=by
 unfold quR at h
 unfold qN
 cases hp:E.P[j]? with
 |none=>rfl
 |some p =>
  rw[hp] at h
  cases sk
  ·show(atI E j s p).1=false
   cases p with
   |op i =>
    have h:(i.1==(2:Int))=false:=by simpa using h
    show(doI E j i s).1=false
    unfold doI
    rw[h]
    cases (i.1==(19:Int))
    ·cases (i.1==(20:Int))
     ·cases (i.1==(23:Int))<;>rfl
     ·cases E.okW (s.1 i.2.2.1)<;>rfl
    ·cases E.okR (s.1 i.2.2.1)<;>rfl
   |br o c t =>
    show(bif qbV s.2.1 o c then(false,t,s) else(false,j+1,s)).1=false
    cases qbV s.2.1 o c<;>rfl
  ·rfl
theorem quU {E:Env} {f:Nat→Bool} {j:Nat} (h1:quR E j=true) (h2:qgD E f j=true) (h3:f (j+1)=true) (h4:f E.h=true) (sk:Bool) (s:IS):∃j' s',qN E sk j s=(false,j',s')∧f j'=true:=by
 cases sk
 ·refine⟨(qN E false j s).2.1,(qN E false j s).2.2,?_,qrR h2 s (qGu h1 false s)⟩
  have:=qGu h1 false s
  generalize qN E false j s=q at *
  obtain⟨b,j',s'⟩:=q
  cases this
  rfl
 ·unfold qN
  cases hp:E.P[j]? with
  |none=>exact⟨_,_,rfl,h4⟩
  |some p=>exact⟨_,_,rfl,h3⟩
section
variable (mo mr n:Nat)
def hE:Env:=qqS (4*mo) (4*mr) n true
def inB (a b j:Nat):Bool:=Nat.ble a j&&Nat.ble (j+1) b
theorem qlL {f:Nat→Bool} {a m:Nat} (h:(List.range' a m).all f=true) {j:Nat} (h1:a≤j) (h2:j<a+m):f j=true:=List.all_eq_true.1 h j (List.mem_range'_1.2 ⟨h1,h2⟩)
theorem qCs {a b j:Nat}:inB a b j=true↔a≤j∧j<b:=by
 unfold inB
 rw[Bool.and_eq_true,Nat.ble_eq,Nat.ble_eq]
 omega
variable {mo mr n}
variable (hs:SzOk (4*mo) (4*mr) n)
include hs
end
end Go.Av
end
section
namespace Go.Av
open Go
def One (W W':Nat→Nat):Prop:=∃a,∀x,x≠a→W' x=W x
theorem One.refl (W:Nat→Nat):One W W:=⟨0,fun _ _=>rfl⟩
theorem qDp (E:Env) (j:Nat) (sk:Bool) (s:IS):One s.2.2 (qN E sk j s).2.2.2.2:=by
 unfold qN
 cases E.P[j]? with
 |none=>exact One.refl _
 |some p =>
  cases sk
  ·show One s.2.2 (atI E j s p).2.2.2.2
   cases p with
   |op i =>
    show One s.2.2 (doI E j i s).2.2.2.2
    unfold doI
    cases (i.1==(2:Int))
    ·cases (i.1==(19:Int))
     ·cases (i.1==(20:Int))
      ·cases (i.1==(23:Int))<;>exact One.refl _
      ·simp only[cond_true,cond_false]
       cases E.okW (s.1 i.2.2.1)
       ·exact One.refl _
       ·exact⟨s.1 i.2.2.1,fun x hx=>qcR _ _ hx⟩
     ·simp only[cond_true,cond_false]
      cases E.okR (s.1 i.2.2.1)<;>exact One.refl _
    ·exact One.refl _
   |br o c t =>
    show One s.2.2 (bif qbV s.2.1 o c then(false,t,s) else(false,j+1,s)).2.2.2.2
    cases qbV s.2.1 o c<;>exact One.refl _
  ·exact One.refl _
def cf1 (E:Env) (stop:Nat→Bool):Nat→Nat→Bool
 |0,j=>stop j
 |n+1,j=>stop j||(match E.P[j]? with
  |none=>cf1 E stop n E.h
  |some (.op i)=>!(i.1==2)&&(bif i.1==20 then cfR E stop n (j+1)&&cfR E stop n E.h else cf1 E stop n (j+1)&&(bif i.1==19 then cf1 E stop n E.h else true))
  |some (.br o _ t)=>cf1 E stop n t&&(bif o==24 then true else cf1 E stop n (j+1)))
theorem qJd {E:Env} {stop:Nat→Bool} (hh:stop E.h=true):∀(n j:Nat) (s:IS),cf1 E stop n j=true→∃k j' s',k≤n∧GoTo E k 0 j s j' s'∧stop j'=true∧One s.2.2 s'.2.2
 |0,j,s,h=>⟨0,j,s,Nat.le_refl _,GoTo.refl E j s,h,One.refl _⟩
 |n+1,j,s,h=>by
  cases hs:stop j with
  |true=>exact⟨0,j,s,Nat.zero_le _,GoTo.refl E j s,hs,One.refl _⟩
  |false =>
   have hj:j≠E.h:=fun e=>by rw[e,hh] at hs;cases hs
   simp only[cf1,hs,Bool.false_or] at h
   have onR:∀j1 s1,qN E false j s=(false,j1,s1)→cfR E stop n j1=true→∃k j' s',k≤n+1∧GoTo E k 0 j s j' s'∧stop j'=true∧One s.2.2 s'.2.2:=fun j1 s1 e hc=>by
    obtain⟨k,j',s',h1,h2,h3,h4⟩:=qxU hh n j1 s1 hc
    have:=qDp E j false s
    rw[e] at this
    exact⟨k+1,j',s',by omega,qS e hj h2,h3,by rw[h4];exact this⟩
   have onS:∀j1 s1,qN E false j s=(false,j1,s1)→s1.2.2=s.2.2→cf1 E stop n j1=true→∃k j' s',k≤n+1∧GoTo E k 0 j s j' s'∧stop j'=true∧One s.2.2 s'.2.2:=fun j1 s1 e em hc=>by
    obtain⟨k,j',s',h1,h2,h3,h4⟩:=qJd hh n j1 s1 hc
    exact⟨k+1,j',s',by omega,qS e hj h2,h3,by rw[em] at h4;exact h4⟩
   cases hp:E.P[j]? with
   |none =>
    rw[hp] at h
    exact onS E.h s (by unfold qN;rw[hp]) rfl h
   |some p =>
    rw[hp] at h
    cases p with
    |op i =>
     simp only[Bool.and_eq_true,Bool.not_eq_true'] at h
     obtain⟨h2,h1⟩:=h
     have e:=qbj hp s
     unfold doI at e
     rw[h2,cond_false] at e
     cases e20:(i.1==(20:Int))
     ·rw[e20,cond_false,Bool.and_eq_true] at h1
      obtain⟨h1,h3⟩:=h1
      cases e19:(i.1==(19:Int))
      ·rw[e19,cond_false,e20,cond_false] at e
       cases e23:(i.1==(23:Int))
       ·rw[e23,cond_false] at e
        exact onS _ _ e rfl h1
       ·rw[e23,cond_true] at e
        exact onS _ _ e rfl h1
      ·rw[e19,cond_true] at e
       rw[e19] at h3
       cases ho:E.okR (s.1 i.2.2.1)
       ·rw[ho] at e
        exact onS _ _ e rfl h3
       ·rw[ho] at e
        exact onS _ _ e rfl h1
     ·rw[e20,cond_true,Bool.and_eq_true] at h1
      obtain⟨h1,h3⟩:=h1
      have e19:(i.1==(19:Int))=false:=by
       have:i.1=(20:Int):=by simpa using e20
       rw[this]
       rfl
      rw[e19,cond_false,e20,cond_true] at e
      cases ho:E.okW (s.1 i.2.2.1)
      ·rw[ho] at e
       exact onR _ _ e h3
      ·rw[ho] at e
       exact onR _ _ e h1
    |br o c t =>
     simp only[Bool.and_eq_true] at h
     obtain⟨h1,h3⟩:=h
     have e:=qgS hp s
     cases hg:qbV s.2.1 o c
     ·rw[hg,cond_false] at e
      have ho:(o==(24:Int))=false:=by
       cases ho:(o==(24:Int))
       ·rfl
       ·unfold qbV at hg
        rw[ho] at hg
        cases hg
      rw[ho,cond_false] at h3
      exact onS _ _ e rfl h3
     ·rw[hg,cond_true] at e
      exact onS _ _ e rfl h1
def ft1 (E:Env) (stop:Nat→Bool) (n j:Nat):Bool:=quR E j&&((bif qoc E j then qgD E (cf1 E stop n) j&&cf1 E stop n (j+1) else qgD E (cfR E stop n) j&&cfR E stop n (j+1))&&(cf1 E stop n E.h&&cfR E stop n E.h))
theorem qQG {E:Env} {stop:Nat→Bool} (hh:stop E.h=true) {n j:Nat} (h:ft1 E stop n j=true) (sk:Bool) (s:IS):∃k j' s',k≤n∧goN E k (qN E sk j s)=(k,0,false,j',s')∧stop j'=true∧One s.2.2 s'.2.2:=by
 unfold ft1 at h
 simp only[Bool.and_eq_true] at h
 obtain⟨h1,h2,h3,h4⟩:=h
 cases hn:qoc E j
 ·rw[hn,cond_false,Bool.and_eq_true] at h2
  obtain⟨j1,s1,e,hc⟩:=quU h1 h2.1 h2.2 h4 sk s
  have ho:=qDp E j sk s
  rw[e] at ho ⊢
  obtain⟨k,j',s',b1,b2,b3,b4⟩:=qxU hh n j1 s1 hc
  exact⟨k,j',s',b1,b2,b3,by rw[b4];exact ho⟩
 ·rw[hn,cond_true,Bool.and_eq_true] at h2
  obtain⟨j1,s1,e,hc⟩:=quU h1 h2.1 h2.2 h3 sk s
  have ho:=qrJ hn sk s
  rw[e] at ho ⊢
  obtain⟨k,j',s',b1,b2,b3,b4⟩:=qJd hh n j1 s1 hc
  refine⟨k,j',s',b1,b2,b3,?_⟩
  have ho:s1.2.2=s.2.2:=ho
  rw[ho] at b4
  exact b4
def ftR (E:Env) (stop:Nat→Bool) (n j:Nat):Bool:=quR E j&&(qoc E j&&(qgD E (cfR E stop n) j&&(cfR E stop n (j+1)&&cfR E stop n E.h)))
theorem qQ4 {E:Env} {stop:Nat→Bool} (hh:stop E.h=true) {n j:Nat} (h:ftR E stop n j=true) (sk:Bool) (s:IS):∃k j' s',k≤n∧goN E k (qN E sk j s)=(k,0,false,j',s')∧stop j'=true∧s'.2.2=s.2.2:=by
 unfold ftR at h
 simp only[Bool.and_eq_true] at h
 obtain⟨h1,hn,h2,h3,h4⟩:=h
 obtain⟨j1,s1,e,hc⟩:=quU h1 h2 h3 h4 sk s
 have ho:=qrJ hn sk s
 rw[e] at ho ⊢
 obtain⟨k,j',s',b1,b2,b3,b4⟩:=qxU hh n j1 s1 hc
 exact⟨k,j',s',b1,b2,b3,by rw[b4];exact ho⟩
theorem qPy {E:Env} {k c j j1 j2:Nat} {s s1 s2:IS} (h1:GoTo E k c j s j1 s1) {c':Nat} (h2:GoTo E k c' j s j2 s2):j1=j2∧s1=s2:=by
 unfold GoTo at h1 h2
 rw[h1] at h2
 injection h2 with _ h2
 injection h2 with _ h2
 injection h2 with _ h2
 injection h2 with h3 h4
 exact⟨h3,h4⟩
theorem qNT {E:Env} {S:Nat→Nat→Bool} {R:Nat→Bool} {e:Nat} (hS:∀t j,S t j=true→qgD E (fun x=>S (t+1) x||(x==e||x==E.h)) j=true) (hR:∀j,R j=true→qgD E (fun x=>R x||x==E.h) j=true) (hRe:R e=false) (he:qgD E (fun x=>R x||x==E.h) e=true) (heh:e≠E.h) :
  ∀(k t0:Nat) (j:Nat) (s s':IS),S t0 j=true→GoTo E k 0 j s e s'→∀t,t<k→∃jt st,GoTo E t 0 j s jt st∧S (t0+t) jt=true∧((∀u x,u<t→S (t0+u) x=true→qoc E x=true)→st.2.2=s.2.2)
 |0,_,_,_,_,_,_,t,ht=>by cases ht
 |k+1,t0,j,s,s',hj,h,t,ht=>by
  cases t with
  |zero=>exact⟨j,s,GoTo.refl E j s,hj,fun _=>rfl⟩
  |succ t =>
   obtain⟨j1,s1,c1,e1,g1,ec⟩:=qj4 h
   have c0:c1=0:=by omega
   subst c0
   have hjh:(j==E.h)=false:=by
    cases hb:(j==E.h)
    ·rfl
    ·rw[hb] at ec;simp only[cond_true] at ec;omega
   have hno:∀{k:Nat} {x:IS},GoTo E k 0 E.h x e s'→False:=fun{k x} g=>by
    cases k with
    |zero =>
     have g:((0,0,false,E.h,x):Nat×Nat×IO3)=(0,0,false,e,s'):=g
     injection g with _ g
     injection g with _ g
     injection g with _ g
     injection g with g _
     exact heh g.symm
    |succ k =>
     obtain⟨_,_,c3,_,_,ec3⟩:=qj4 g
     rw[beq_self_eq_true] at ec3
     simp only[cond_true] at ec3
     omega
   have:=qrR (hS t0 j hj) s (by rw[e1])
   rw[e1] at this
   simp only[Bool.or_eq_true,beq_iff_eq] at this
   rcases this with h1 |h1 |h1
   ·obtain⟨jt,st,g,hst,hmem⟩:=qNT hS hR hRe he heh k (t0+1) j1 s1 s' h1 g1 t (by omega)
    refine⟨jt,st,qS e1 (by simpa using hjh) g,by rw[show t0+(t+1)=t0+1+t by omega];exact hst,fun hx=>?_⟩
    rw[hmem (fun u x hu hux=>hx (u+1) x (by omega) (by rw[show t0+(u+1)=t0+1+u by omega];exact hux))]
    have:=qrJ (hx 0 j (by omega) hj) false s
    rw[e1] at this
    exact this
   ·subst h1
    exfalso
    cases k with
    |zero=>omega
    |succ k =>
     obtain⟨j2,s2,c2,e2,g2,ec2⟩:=qj4 g1
     have c0:c2=0:=by omega
     subst c0
     have:=qrR he s1 (by rw[e2])
     rw[e2] at this
     simp only[Bool.or_eq_true,beq_iff_eq] at this
     rcases this with h2 |h2
     ·rcases qvy hR k j2 s2 j1 s' h2 g2 with h3 |h3
      ·rw[hRe] at h3;cases h3
      ·exact heh h3
     ·subst h2
      exact hno g2
   ·subst h1
    exact(hno g1).elim
end Go.Av
end
section
namespace Go.Av
open Go
def qKy (W W':Nat→Nat):Prop:=∃a,∀x,(x<537001984∨537067520≤x)→x≠a→W' x=W x
def qgJ (E:Env) (mo mr N:Nat) (X:Nat→Nat) (q:IO3):Prop:=∃k c j' s',k≤N∧goN E k q=(k,c,true,j',s')∧(Wp mo mr s'.2.2∨(c=0∧(s'.2.2 537919488=3235799053→∀t,t<mo→s'.2.2 (537001984+4*t)=X t)))
theorem qbN {E:Env} {mo mr N N':Nat} {X:Nat→Nat} {q:IO3} (h:qgJ E mo mr N X q) (hn:N≤N'):qgJ E mo mr N' X q:=by
 obtain⟨k,c,j',s',h1,h2,h3⟩:=h
 exact⟨k,c,j',s',by omega,h2,h3⟩
theorem qlQ {E:Env} {mo mr N k j':Nat} {s':IS} {X:Nat→Nat} {q:IO3} (g:goN E k q=(k,0,false,j',s')) (h:qgJ E mo mr N X (false,j',s')):qgJ E mo mr (k+N) X q:=by
 obtain⟨k2,c2,j2,s2,h1,h2,h3⟩:=h
 refine⟨k+k2,c2,j2,s2,by omega,?_,h3⟩
 rw[qnt,g,h2]
 simp
theorem qia {E:Env} {mo mr N k j j':Nat} {s s':IS} {X:Nat→Nat} (g:GoTo E k 0 j s j' s') (h:qgJ E mo mr N X (false,j',s')):qgJ E mo mr (k+N) X (false,j,s):=qlQ g h
theorem qwQ (E:Env) (j:Nat) (rd imm:Int) (s:IS):doI E j (qp 4 rd 0 0 0 imm 0) s=(false,j+1,qn s.1 rd (wn imm % 65536*65536+wn ((s.1 rd:Nat):Int) % 65536),s.2):=by
 show(false,j+1,qn s.1 rd (wn ((qmg (wn ((s.1 rd:Nat):Int)) (wn imm) 16 16:Nat):Int)),s.2)=_
 have hd:=qga ((s.1 rd:Nat):Int)
 generalize wn ((s.1 rd:Nat):Int)=d at *
 have h1:wn imm % 65536<65536:=Nat.mod_lt _ (by omega)
 have h2:d % 65536<65536:=Nat.mod_lt _ (by omega)
 have h3:wn imm % 65536*65536+d % 65536<4294967296:=by
  generalize wn imm % 65536=x at *
  generalize d % 65536=y at *
  omega
 have e:qmg d (wn imm) 16 16=wn imm % 65536*65536+d % 65536:=by
  rw[qGo,Nat.div_eq_of_lt hd,Nat.zero_mul,Nat.add_zero]
 rw[e,ql4 _ h3]
def C5 (E:Env) (a:Nat):Prop:=E.okW a=false∨a=537919488
theorem qPU:∀b,b<32→qDN (537919488 ^^^ 2 ^ b)=true:=by decide
section
variable {E:Env} {mo mr q:Nat} (H:HandAt E mo mr) (Q:QEnd E q) (hq:E.P[q+6]?=some (.op (qp 2 0 0 0 0 0 0)))
include H
theorem qLL (l:Nat) (hl:l<65536):C5 E (537919488+l):=by
 by_cases h0:l=0
 ·subst h0
  exact .inr rfl
 ·left
  have ho:=H.sz.out
  have hr:=H.sz.rail
  show(qdf E.o E.r (537919488+l)).isSome=false
  unfold qdf
  rw[show inW 537001984 E.o (537919488+l)=false from decide_eq_false (by omega),show inW 537133056 E.r (537919488+l)=false from decide_eq_false (by omega),show inW 537395200 E.r (537919488+l)=false from decide_eq_false (by omega),show inW 537919488 4 (537919488+l)=false from decide_eq_false (by omega),show inW 538968064 4 (537919488+l)=false from decide_eq_false (by omega)]
  cases ((537919488+l) % 4 != 0)<;>rfl
theorem qKc {a:Nat} (h:qDN a=true):C5 E a:=.inl (qRg H.sz h)
theorem qCw (f:qX.den) (s:IS) (h5:s.1 5=537919488):C5 E ((qbE f s).1 5):=by
 rcases qOO f s 5 with e |⟨b,hb,e⟩
 ·rw[e,h5]
  exact .inr rfl
 ·rw[e,h5]
  exact qKc H (qPU b hb)
theorem qrD (X:Nat→Nat) (s:IS):qgJ E mo mr (qdj mo mr) X (false,E.h,s):=by
 obtain⟨s',g,w,_⟩:=qSb H s
 exact⟨_,_,_,s',Nat.le_refl _,g,.inl w⟩
include Q
theorem qBH (X:Nat→Nat) (s:IS) (hX:∀t,t<mo→s.2.2 (537001984+4*t)=X t):qgJ E mo mr 1 X (false,q+5,s):=by
 have:=H
 have hb:=Q.hb
 have:=qvV (E:=E) (j:=q+5) (s:=s) (j':=q+5) (s':=s) (by rw[qbj Q.e5];rfl)
 rw[beq_eq_false_iff_ne.2 (show q+5≠E.h by omega)] at this
 exact⟨1,0,_,s,Nat.le_refl _,this,.inr ⟨rfl,fun _=>hX⟩⟩
theorem qBq (X:Nat→Nat) (s:IS) (hX:∀t,t<mo→s.2.2 (537001984+4*t)=X t) (h5:C5 E (s.1 5)):qgJ E mo mr (2+qdj mo mr) X (false,q+4,s):=by
 have hb:=Q.hb
 rcases h5 with h5 |h5
 ·have g:GoTo E 1 0 (q+4) s E.h s:=by
   refine qS ?_ (by omega) (GoTo.refl _ _ _)
   rw[qbj Q.e4,qls,h5]
   rfl
  exact qbN (qia g (qrD H X s)) (by omega)
 ·have g:GoTo E 1 0 (q+4) s (q+5) (s.1,s.2.1,qcb s.2.2 537919488 (s.1 0)):=by
   refine qS ?_ (by omega) (GoTo.refl _ _ _)
   rw[qbj Q.e4,qls,h5,(qpf H).1]
   rfl
  obtain⟨_,_,n3,_⟩:=h_n H
  exact qbN (qia g (qBH H Q X _ (fun t ht=>by
   show qcb s.2.2 537919488 (s.1 0) _=_
   rw[qcR _ _ (by omega)]
   exact hX t ht))) (by omega)
theorem qCu (X:Nat→Nat) (s:IS) (hX:∀t,t<mo→s.2.2 (537001984+4*t)=X t) (h5:C5 E (s.1 5)):qgJ E mo mr (3+qdj mo mr) X (false,q+3,s):=by
 have hb:=Q.hb
 have g:GoTo E 1 0 (q+3) s (q+4) (qjc s.1 (qp 4 0 0 0 0 (hi false 3235799053) 0),s.2):=by
  refine qS ?_ (by omega) (GoTo.refl _ _ _)
  rw[qbj Q.e3]
  rfl
 have e:(qjc s.1 (qp 4 0 0 0 0 (hi false 3235799053) 0)) 5=s.1 5:=qba s.1 (k:=0) (j:=5) (wn (vOf 4 (hi false 3235799053) 0 (s.1 0) (s.1 0) (s.1 0) 0)) (by decide)
 refine qbN (qia g (qBq H Q X _ hX ?_)) (by omega)
 show C5 E ((qjc s.1 (qp 4 0 0 0 0 (hi false 3235799053) 0)) 5)
 rw[e]
 exact h5
theorem qDQ (X:Nat→Nat) (s:IS) (hX:∀t,t<mo→s.2.2 (537001984+4*t)=X t) (h5:C5 E (s.1 5)):qgJ E mo mr (4+qdj mo mr) X (false,q+2,s):=by
 have hb:=Q.hb
 have g:GoTo E 1 0 (q+2) s (q+3) (qn s.1 0 (wn (lo false 3235799053)),s.2):=by
  refine qS ?_ (by omega) (GoTo.refl _ _ _)
  rw[qbj Q.e2]
  rfl
 have e:(qn s.1 0 (wn (lo false 3235799053))) 5=s.1 5:=qba _ _ (by decide)
 refine qbN (qia g (qCu H Q X _ hX ?_)) (by omega)
 show C5 E ((qn s.1 0 (wn (lo false 3235799053))) 5)
 rw[e]
 exact h5
theorem qBP (X:Nat→Nat) (s:IS) (hX:∀t,t<mo→s.2.2 (537001984+4*t)=X t):qgJ E mo mr (5+qdj mo mr) X (false,q+1,s):=by
 have hb:=Q.hb
 have g:GoTo E 1 0 (q+1) s (q+2) (qn s.1 5 (537919488+wn ((s.1 5:Nat):Int) % 65536),s.2):=by
  refine qS ?_ (by omega) (GoTo.refl _ _ _)
  rw[qbj Q.e1,qwQ]
  rfl
 refine qbN (qia g (qDQ H Q X _ hX ?_)) (by omega)
 show C5 E ((qn s.1 5 _) 5)
 rw[qbL]
 exact qLL H _ (Nat.mod_lt _ (by omega))
theorem qCW (X:Nat→Nat) (s:IS) (hX:∀t,t<mo→s.2.2 (537001984+4*t)=X t):qgJ E mo mr (6+qdj mo mr) X (false,q,s):=by
 have hb:=Q.hb
 have g:GoTo E 1 0 q s (q+1) (qn s.1 5 (wn (lo false 537919488)),s.2):=by
  refine qS ?_ (by omega) (GoTo.refl _ _ _)
  rw[qbj Q.e0]
  rfl
 exact qbN (qia g (qBP H Q X _ hX)) (by omega)
theorem qSx (f:qX.den) (X:Nat→Nat) (s:IS) (hX:∀t,t<mo→s.2.2 (537001984+4*t)=X t):qgJ E mo mr (6+qdj mo mr) X (qN E (f.1==(1:Int)) q (qbE f s)):=by
 cases hk:(f.1==(1:Int))
 ·rw[qbj Q.e0]
  exact qbN (qBP H Q X (qn (qbE f s).1 5 (wn (lo false 537919488)),(qbE f s).2) (by rw[qhD];exact hX)) (by omega)
 ·rw[step_skip Q.e0]
  exact qbN (qBP H Q X _ (by rw[qhD];exact hX)) (by omega)
theorem qTa (f:qX.den) (X:Nat→Nat) (s:IS) (hX:∀t,t<mo→s.2.2 (537001984+4*t)=X t) (h5:s.1 5=0):qgJ E mo mr (6+qdj mo mr) X (qN E (f.1==(1:Int)) (q+1) (qbE f s)):=by
 cases hk:(f.1==(1:Int))
 ·rw[qbj Q.e1,qwQ]
  refine qbN (qDQ H Q X (qn (qbE f s).1 5 (wn (hi false 537919488) % 65536*65536+wn (((qbE f s).1 5:Nat):Int) % 65536),(qbE f s).2) (by rw[qhD];exact hX) ?_) (by omega)
  show C5 E ((qn (qbE f s).1 5 (537919488+wn (((qbE f s).1 5:Nat):Int) % 65536)) 5)
  rw[qbL]
  exact qLL H _ (Nat.mod_lt _ (by omega))
 ·rw[step_skip Q.e1,qPY f s hk]
  exact qbN (qDQ H Q X s hX (by rw[h5];exact qKc H qL7)) (by omega)
theorem qSC (f:qX.den) (X:Nat→Nat) (s:IS) (hX:∀t,t<mo→s.2.2 (537001984+4*t)=X t) (h5:s.1 5=537919488):qgJ E mo mr (6+qdj mo mr) X (qN E (f.1==(1:Int)) (q+2) (qbE f s)):=by
 have ha:=qCw H f s h5
 cases hk:(f.1==(1:Int))
 ·rw[qbj Q.e2]
  refine qbN (qCu H Q X (qn (qbE f s).1 0 (wn (lo false 3235799053)),(qbE f s).2) (by rw[qhD];exact hX) ?_) (by omega)
  show C5 E ((qn (qbE f s).1 0 (wn (lo false 3235799053))) 5)
  rw[qba _ _ (by decide)]
  exact ha
 ·rw[step_skip Q.e2]
  exact qbN (qCu H Q X _ (by rw[qhD];exact hX) ha) (by omega)
theorem qS0 (f:qX.den) (X:Nat→Nat) (s:IS) (hX:∀t,t<mo→s.2.2 (537001984+4*t)=X t) (h5:s.1 5=537919488):qgJ E mo mr (6+qdj mo mr) X (qN E (f.1==(1:Int)) (q+3) (qbE f s)):=by
 have ha:=qCw H f s h5
 cases hk:(f.1==(1:Int))
 ·rw[qbj Q.e3]
  have e:(qjc (qbE f s).1 (qp 4 0 0 0 0 (hi false 3235799053) 0)) 5=(qbE f s).1 5:=qba (qbE f s).1 (k:=0) (j:=5) (wn (vOf 4 (hi false 3235799053) 0 ((qbE f s).1 0) ((qbE f s).1 0) ((qbE f s).1 0) 0)) (by decide)
  refine qbN (qBq H Q X (qjc (qbE f s).1 (qp 4 0 0 0 0 (hi false 3235799053) 0),(qbE f s).2) (by rw[qhD];exact hX) ?_) (by omega)
  show C5 E ((qjc (qbE f s).1 (qp 4 0 0 0 0 (hi false 3235799053) 0)) 5)
  rw[e]
  exact ha
 ·rw[step_skip Q.e3]
  exact qbN (qBq H Q X _ (by rw[qhD];exact hX) ha) (by omega)
theorem qSR (f:qX.den) (X:Nat→Nat) (s:IS) (hX:∀t,t<mo→s.2.2 (537001984+4*t)=X t) (h5:s.1 5=537919488):qgJ E mo mr (6+qdj mo mr) X (qN E (f.1==(1:Int)) (q+4) (qbE f s)):=by
 have ha:=qCw H f s h5
 obtain⟨_,_,n3,_⟩:=h_n H
 cases hk:(f.1==(1:Int))
 ·rw[qbj Q.e4,qls]
  rcases ha with ha |ha
  ·rw[ha]
   exact qbN (qrD H X _) (by omega)
  ·rw[ha,(qpf H).1]
   exact qbN (qBH H Q X ((qbE f s).1,(qbE f s).2.1,qcb (qbE f s).2.2 537919488 ((qbE f s).1 0)) (fun t ht=>by
    show qcb (qbE f s).2.2 537919488 _ _=_
    rw[qcR _ _ (by omega),qhD]
    exact hX t ht)) (by omega)
 ·rw[step_skip Q.e4]
  exact qbN (qBH H Q X _ (by rw[qhD];exact hX)) (by omega)
include hq
theorem qSf (hh:q+6≠E.h) (f:qX.den) (X:Nat→Nat) (s:IS) (hX:∀t,t<mo→s.2.2 (537001984+4*t)=X t):qgJ E mo mr (6+qdj mo mr) X (qN E (f.1==(1:Int)) (q+5) (qbE f s)):=by
 have:=H
 cases hk:(f.1==(1:Int))
 ·rw[qbj Q.e5,qOk]
  exact⟨0,0,_,_,Nat.zero_le _,rfl,.inr ⟨rfl,fun _=>by rw[qhD];exact hX⟩⟩
 ·rw[step_skip Q.e5]
  have:=qvV (E:=E) (j:=q+6) (s:=qbE f s) (j':=q+6) (s':=qbE f s) (by rw[qbj hq];rfl)
  rw[beq_eq_false_iff_ne.2 hh] at this
  exact⟨1,0,_,_,by omega,this,.inr ⟨rfl,fun _=>by rw[qhD];exact hX⟩⟩
end
end Go.Av
end
section
namespace Go.Av
open Go
theorem qPh {E:Env} {a b j j' jt:Nat} {s s' st:IS} (h:GoTo E (a+b) 0 j s j' s') (h1:GoTo E a 0 j s jt st):GoTo E b 0 jt st j' s':=by
 unfold GoTo at *
 rw[qnt,h1] at h
 dsimp only at h
 generalize goN E b (false,jt,st)=q at h ⊢
 obtain⟨k,c,r⟩:=q
 injection h with h1 h2
 injection h2 with h2 h3
 dsimp only at h1 h2 h3
 rw[h3,show k=b by omega,show c=0 by omega]
theorem qHT (ρ:Int→Nat) (imm:Int):(qjc ρ (qp 4 0 0 0 0 imm 0)) 5=ρ 5:=qba ρ (k:=0) (j:=5) (wn (vOf 4 imm 0 (ρ 0) (ρ 0) (ρ 0) 0)) (by decide)
theorem qgO.refl (W:Nat→Nat):qgO W W:=fun _ _=>rfl
theorem qgO.trans {W W' W'':Nat→Nat} (h:qgO W W') (h':qgO W' W''):qgO W W'':=fun a ha=>by rw[h' a ha,h a ha]
theorem qDz {W W1 W2 W3:Nat→Nat} (h1:qgO W W1) (h2:One W1 W2) (h3:qgO W2 W3):qKy W W3:=by
 obtain⟨a,ha⟩:=h2
 exact⟨a,fun x hx hxa=>by rw[h3 x hx,ha x hxa,h1 x hx]⟩
section
variable (I mo mr n:Nat)
def gE:Env:=qj5 (4*I) (4*mo) (4*mr) n true
def qIn (j:Nat):Bool:=j==1||(j==19||j==53)
def qHz (j:Nat):Bool:=j==20||(j==46||j==53)
theorem qSt:((List.range 19).all fun j=>ft1 (gE I mo mr n) qIn 20 j)=true:=by kernel_rfl
theorem qSY:((List.range' 19 27).all fun j=>ftR (gE I mo mr n) qHz 28 j)=true:=by kernel_rfl
theorem qSV:((List.range 18).all fun u=>qgD (gE I mo mr n) (fun x=>x==1+(u+1) % 18||(x==19||x==(gE I mo mr n).h)) (1+u))=true:=by kernel_rfl
theorem qSv:((List.range 18).all fun u=>u==13||qoc (gE I mo mr n) (1+u))=true:=by kernel_rfl
theorem qP5:((List.range' 19 34).all fun j=>qgD (gE I mo mr n) (fun x=>inB 20 53 x||x==(gE I mo mr n).h) j)=true:=by kernel_rfl
theorem qNM:((List.range' 19 27).all fun j=>qoc (gE I mo mr n) j&&qgD (gE I mo mr n) (fun x=>inB 19 46 x||(x==46||x==(gE I mo mr n).h)) j)=true:=by kernel_rfl
theorem qNS:((List.range' 46 7).all fun j=>qgD (gE I mo mr n) (fun x=>inB 47 53 x||x==(gE I mo mr n).h) j)=true:=by kernel_rfl
theorem qSp:(gE I mo mr n).P[46+6]?=some (.op (qp 2 0 0 0 0 0 0)):=by kernel_rfl
theorem qwW:(gE I mo mr n).h=53:=by kernel_rfl
variable {I mo mr n}
variable (hs:SzOk (4*mo) (4*mr) n) (hI:I+mo≤mr)
include hs
theorem qrl:HandAt (gE I mo mr n) mo mr:=qvn (4*I) mo mr n true hs
theorem qM1:CLoop (gE I mo mr n) 0 ((4*I:Nat):Int) ((4*mo:Nat):Int):=by
 have:=hs
 exact qJp (4*I) (4*mo) (4*mr) n true
theorem qSZ:VLoop (gE I mo mr n) 19 ((4*I:Nat):Int) ((4*mo:Nat):Int):=by
 have:=hs
 exact qJj (4*I) (4*mo) (4*mr) n
theorem qIw:QEnd (gE I mo mr n) 46:=by
 have:=hs
 exact qQq (4*I) (4*mo) (4*mr) n true
include hI
theorem qNC:wn ((4*I:Nat):Int)=4*I∧wn ((4*mo:Nat):Int)=4*mo∧4*mo+4*I≤65536:=by
 have hr:=hs.rail
 exact⟨qc1 (by omega),qc1 (by omega),by omega⟩
theorem qRO:∀(d i:Nat) (s:IS),i+d=mo→s.1 1=4*i→∀T,T<18*d+4→∃jt st,GoTo (gE I mo mr n) T 0 1 s jt st∧jt≤18∧qgO s.2.2 st.2.2:=by
 have H:=qrl (I:=I) hs
 have C:=qM1 (I:=I) (n:=n) hs
 obtain⟨n1,n2,n3⟩:=qNC (n:=n) hs hI
 have hh:=qwW I mo mr n
 have hok:∀t,t<mo→(gE I mo mr n).okW (537001984+4*t)=true∧(gE I mo mr n).okR (537133056+(4*t+4*I))=true:=fun t ht=>⟨(qxO H ht).1,by
  rw[show 4*t+4*I=4*(I+t) by omega]
  exact(h_a H (by omega)).2⟩
 have hS:∀t j,(j==1+t % 18)=true→qgD (gE I mo mr n) (fun x=>x==1+(t+1) % 18||(x==19||x==(gE I mo mr n).h)) j=true:=fun t j hj=>by
  have:=List.all_eq_true.1 (qSV I mo mr n) (t % 18) (List.mem_range.2 (Nat.mod_lt _ (by omega)))
  rw[beq_iff_eq.1 hj,show(t+1) % 18=(t % 18+1) % 18 by omega]
  exact this
 have hR:∀j,inB 20 53 j=true→qgD (gE I mo mr n) (fun x=>inB 20 53 x||x==(gE I mo mr n).h) j=true:=fun j hj=>by
  have:=qCs.1 hj
  exact qlL (qP5 I mo mr n) (by omega) (by omega)
 have he:=qlL (qP5 I mo mr n) (j:=19) (by omega) (by omega)
 have hN:∀u,u<18→u≠13→qoc (gE I mo mr n) (1+u)=true:=fun u hu hne=>by
  have:=List.all_eq_true.1 (qSv I mo mr n) u (List.mem_range.2 hu)
  rw[Bool.or_eq_true,beq_iff_eq] at this
  rcases this with h |h
  ·exact(hne h).elim
  ·exact h
 have st2:=fun k t0 j s s'=>qNT (E:=gE I mo mr n) (S:=fun t j=>j==1+t % 18) (R:=inB 20 53) (e:=19) hS hR rfl he (by rw[hh];omega) k t0 j s s'
 intro d
 induction d with
 |zero =>
  intro i s hd hi T hT
  obtain⟨s',g,_⟩:=qy6 C n1 n2 n3 hok 0 i s hd hi
  obtain⟨jt,st,h1,h2,h3⟩:=st2 _ 0 1 s s' rfl g T (by omega)
  have h2:=beq_iff_eq.1 h2
  have hmem:=h3 (fun u x hu hx=>by
   rw[beq_iff_eq.1 hx]
   exact hN _ (by omega) (by omega))
  exact⟨jt,st,h1,by omega,fun a _=>by rw[hmem]⟩
 |succ d ih =>
  intro i s hd hi T hT
  obtain⟨s',g,_⟩:=qy6 C n1 n2 n3 hok (d+1) i s hd hi
  obtain⟨t1,_⟩:=qza C s (by omega) (by omega)
  rw[hi,n1] at t1
  obtain⟨o1,o2⟩:=hok i (by omega)
  obtain⟨s1,g1,v1,w1⟩:=t1 o2 o1
  have hs1:qgO s.2.2 s1.2.2:=fun a ha=>by
   rw[w1,qcR _ _ (by omega)]
  rcases Nat.lt_or_ge T 18 with hT18 |hT18
  ·obtain⟨jt,st,h1,h2,h3⟩:=st2 _ 0 1 s s' rfl g T (by omega)
   have h2:=beq_iff_eq.1 h2
   have hjt:jt=1+T:=by omega
   rcases Nat.lt_or_ge T 14 with hT14 |hT14
   ·have hmem:=h3 (fun u x hu hx=>by
     rw[beq_iff_eq.1 hx]
     exact hN _ (by omega) (by omega))
    exact⟨jt,st,h1,by omega,fun a _=>by rw[hmem]⟩
   ·have g':GoTo (gE I mo mr n) (T+(18*(d+1)+4-T)) 0 1 s 19 s':=by
     rw[show T+(18*(d+1)+4-T)=18*(d+1)+4 by omega]
     exact g
    have gr:=qPh g' h1
    obtain⟨j2,x2,b1,b2,b3⟩:=st2 _ T jt st s' (beq_iff_eq.2 (by omega)) gr (18-T) (by omega)
    have hmem:=b3 (fun u x hu hx=>by
     rw[beq_iff_eq.1 hx]
     exact hN _ (by omega) (by omega))
    have gt:=h1.trans b1
    rw[show T+(18-T)=18 by omega] at gt
    obtain⟨_,e⟩:=qPy gt g1
    refine⟨jt,st,h1,by omega,?_⟩
    rw[←hmem,e]
    exact hs1
  ·obtain⟨T',rfl⟩:∃T',T=18+T':=⟨T-18,by omega⟩
   obtain⟨jt,st,h1,h2,h3⟩:=ih (i+1) s1 (by omega) (by omega) T' (by omega)
   exact⟨jt,st,by simpa using g1.trans h1,h2,hs1.trans h3⟩
theorem qR2 (s:IS) (T:Nat) (hT:T<18*mo+5):∃jt st,GoTo (gE I mo mr n) T 0 0 s jt st∧jt≤18∧qgO s.2.2 st.2.2:=by
 cases T with
 |zero=>exact⟨0,s,GoTo.refl _ _ _,by omega,qgO.refl _⟩
 |succ T =>
  have C:=qM1 (I:=I) (n:=n) hs
  have f0:=qsX C.i0 (by rw[qwW];decide) s
  obtain⟨jt,st,h1,h2,h3⟩:=qRO hs hI mo 0 (qn s.1 1 0,s.2) (by omega) (qj0 s) T (by omega)
  refine⟨jt,st,?_,h2,h3⟩
  have:=f0.trans h1
  rw[Nat.add_comm 1 T] at this
  exact this
variable (X W:Nat→Nat) (hX:∀t,t<mo→W (537133056+4*(I+t))=X t∧W (537395200+4*(I+t))=X t)
include hX
theorem qG2 (s:IS) (hW:qKy W s.2.2):qgJ (gE I mo mr n) mo mr (26*mo+11+qdj mo mr) X (false,19,s):=by
 have H:=qrl (I:=I) hs
 have Q:=qIw (I:=I) (n:=n) hs
 obtain⟨a1,a2⟩:=qJM (n:=n) hs hI s
 obtain⟨a,ha⟩:=hW
 by_cases hz:∀t,t<mo→s.2.2 (537001984+4*t)=s.2.2 (537133056+4*(I+t))∧s.2.2 (537001984+4*t)=s.2.2 (537395200+4*(I+t))
 ·obtain⟨s1,g1,w1⟩:=a1 hz
  refine qbN (qia g1 (qCW H Q X s1 (fun t ht=>?_))) (by omega)
  rw[w1]
  obtain⟨z1,z2⟩:=hz t ht
  obtain⟨x1,x2⟩:=hX t ht
  by_cases e:537133056+4*(I+t)=a
  ·rw[z2,ha _ (.inr (by omega)) (by omega),x2]
  ·rw[z1,ha _ (.inr (by omega)) e,x1]
 ·obtain⟨t,ht⟩:=Classical.not_forall.1 hz
  obtain⟨ht,hne⟩:=Classical.not_imp.1 ht
  obtain⟨k,s1,hk,g1,_⟩:=a2 ⟨t,ht,hne⟩
  have e53:(53:Nat)=(gE I mo mr n).h:=(qwW I mo mr n).symm
  rw[e53] at g1
  exact qbN (qia g1 (qrD H X s1)) (by omega)
omit hs hI hX in
theorem qAs (m o:Nat) (h:wn ((4*o:Nat):Int)=4*o):wn ((4*o:Nat):Int)≤m+4*o:=by omega
theorem qSm (f:qX.den) (s:IS) (hW:s.2.2=W) (T:Nat) (hT:T<18*mo+5):∃jt st,GoTo (gE I mo mr n) T 0 0 s jt st∧jt<53∧qgJ (gE I mo mr n) mo mr (72*mo+56*mr+90) X (qN (gE I mo mr n) (f.1==(1:Int)) jt (qbE f st)):=by
 have H:=qrl (I:=I) hs
 have C:=qM1 (I:=I) (n:=n) hs
 obtain⟨n1,n2,n3⟩:=qNC (n:=n) hs hI
 have hh:=qwW I mo mr n
 obtain⟨jt,st,g,hjt,hm⟩:=qR2 hs hI s T hT
 rw[hW] at hm
 refine⟨jt,st,g,by omega,?_⟩
 obtain⟨k,j',s',hk,g2,hst,hone⟩:=qQG (stop:=qIn) (by rw[hh];rfl) (List.all_eq_true.1 (qSt I mo mr n) jt (List.mem_range.2 (by omega))) (f.1==(1:Int)) (qbE f st)
 rw[qhD] at hone
 unfold qIn at hst
 simp only[Bool.or_eq_true,beq_iff_eq] at hst
 have e53:(53:Nat)=(gE I mo mr n).h:=hh.symm
 rcases hst with rfl |rfl |rfl
 ·obtain⟨k2,j2,s2,hk2,g3,hor⟩:=qJS C (by omega) mo s' (qAs _ _ n2)
  rcases hor with⟨rfl,hso⟩ |rfl
  ·have o:=qDz hm hone hso
   exact qbN (qlQ g2 (qia g3 (qG2 hs hI X W hX s2 o))) (by unfold qdj;omega)
  ·exact qbN (qlQ g2 (qia g3 (qrD H X s2))) (by unfold qdj;omega)
 ·exact qbN (qlQ g2 (qG2 hs hI X W hX s' (qDz hm hone (qgO.refl _)))) (by unfold qdj;omega)
 ·rw[e53] at g2
  exact qbN (qlQ g2 (qrD H X s')) (by unfold qdj;omega)
omit hX in
theorem qSD (f:qX.den) (s s2:IS) (hO:∀t,t<mo→s.2.2 (537001984+4*t)=X t) (hg:GoTo (gE I mo mr n) (26*mo+5) 0 19 s 46 s2) (T:Nat) (hT:T<26*mo+5):∃jt st,GoTo (gE I mo mr n) T 0 19 s jt st∧jt<53∧qgJ (gE I mo mr n) mo mr (72*mo+56*mr+90) X (qN (gE I mo mr n) (f.1==(1:Int)) jt (qbE f st)):=by
 have H:=qrl (I:=I) hs
 have V:=qSZ (I:=I) (n:=n) hs
 have Q:=qIw (I:=I) (n:=n) hs
 obtain⟨n1,n2,n3⟩:=qNC (n:=n) hs hI
 have hh:=qwW I mo mr n
 have e53:(53:Nat)=(gE I mo mr n).h:=hh.symm
 obtain⟨jt,st,g,hst,hmem⟩:=stay (E:=gE I mo mr n) (S:=inB 19 46) (R:=inB 47 53) (e:=46) (fun j hj=>by
  have:=qCs.1 hj
  have:=qlL (qNM I mo mr n) (j:=j) (by omega) (by omega)
  rw[Bool.and_eq_true] at this
  exact this.2) (fun j hj=>by
  have:=qCs.1 hj
  exact qlL (qNS I mo mr n) (by omega) (by omega)) rfl (qlL (qNS I mo mr n) (by omega) (by omega)) (by rw[hh];omega) (26*mo+5) 19 s s2 rfl hg T hT
 have hb:=qCs.1 hst
 have hmem:st.2.2=s.2.2:=hmem (fun x hx=>by
  have:=qCs.1 hx
  have:=qlL (qNM I mo mr n) (j:=x) (by omega) (by omega)
  rw[Bool.and_eq_true] at this
  exact this.1)
 refine⟨jt,st,g,by omega,?_⟩
 obtain⟨k,j',s',hk,g2,hs',hm'⟩:=qQ4 (stop:=qHz) (by rw[hh];rfl) (qlL (qSY I mo mr n) hb.1 (by omega)) (f.1==(1:Int)) (qbE f st)
 rw[qhD,hmem] at hm'
 unfold qHz at hs'
 simp only[Bool.or_eq_true,beq_iff_eq] at hs'
 rcases hs' with rfl |rfl |rfl
 ·obtain⟨k2,j2,s3,hk2,g3,w3,hor⟩:=qLo V (by omega) mo s' (qAs _ _ n2)
  rcases hor with rfl |rfl
  ·exact qbN (qlQ g2 (qia g3 (qCW H Q X s3 (by rw[w3,hm'];exact hO)))) (by unfold qdj;omega)
  ·exact qbN (qlQ g2 (qia g3 (qrD H X s3))) (by unfold qdj;omega)
 ·exact qbN (qlQ g2 (qCW H Q X s' (by rw[hm'];exact hO))) (by unfold qdj;omega)
 ·rw[e53] at g2
  exact qbN (qlQ g2 (qrD H X s')) (by unfold qdj;omega)
omit hX hI in
theorem qSA (f:qX.den) (s:IS) (hO:∀t,t<mo→s.2.2 (537001984+4*t)=X t) (i:Nat) (hi6:i<6):∃jt st,GoTo (gE I mo mr n) i 0 46 s jt st∧jt<53∧qgJ (gE I mo mr n) mo mr (72*mo+56*mr+90) X (qN (gE I mo mr n) (f.1==(1:Int)) jt (qbE f st)):=by
 have H:=qrl (I:=I) hs
 have Q:=qIw (I:=I) (n:=n) hs
 have hh:=qwW I mo mr n
 have up:∀{q:IO3},qgJ (gE I mo mr n) mo mr (6+qdj mo mr) X q→qgJ (gE I mo mr n) mo mr (72*mo+56*mr+90) X q:=fun h=>qbN h (by unfold qdj;omega)
 have q1:GoTo (gE I mo mr n) 1 0 46 s 47 (qn s.1 5 0,s.2):=qS (by rw[qbj Q.e0];rfl) (by rw[hh];omega) (GoTo.refl _ _ _)
 have r51:(qn s.1 5 0) 5=0:=qbL _ _ _
 generalize hρ1:qn s.1 5 0=ρ1 at q1 r51
 have q2:GoTo (gE I mo mr n) 1 0 47 (ρ1,s.2) 48 (qn ρ1 5 537919488,s.2):=by
  refine qS ?_ (by rw[hh];omega) (GoTo.refl _ _ _)
  rw[qbj Q.e1,qwQ]
  have e0:wn (hi false 537919488) % 65536*65536=537919488:=rfl
  have e1:wn ((0:Nat):Int) % 65536=0:=rfl
  show(false,47+1,qn ρ1 5 (wn (hi false 537919488) % 65536*65536+wn ((ρ1 5:Nat):Int) % 65536),s.2)=_
  rw[r51,e0,e1,Nat.add_zero]
 have r52:(qn ρ1 5 537919488) 5=537919488:=qbL _ _ _
 generalize qn ρ1 5 537919488=ρ2 at q2 r52
 have q3:GoTo (gE I mo mr n) 1 0 48 (ρ2,s.2) 49 (qn ρ2 0 (wn (lo false 3235799053)),s.2):=qS (by rw[qbj Q.e2];rfl) (by rw[hh];omega) (GoTo.refl _ _ _)
 have r53:(qn ρ2 0 (wn (lo false 3235799053))) 5=537919488:=(qba _ _ (by decide)).trans r52
 generalize qn ρ2 0 (wn (lo false 3235799053))=ρ3 at q3 r53
 have q4:GoTo (gE I mo mr n) 1 0 49 (ρ3,s.2) 50 (qjc ρ3 (qp 4 0 0 0 0 (hi false 3235799053) 0),s.2):=qS (by rw[qbj Q.e3];rfl) (by rw[hh];omega) (GoTo.refl _ _ _)
 have r54:(qjc ρ3 (qp 4 0 0 0 0 (hi false 3235799053) 0)) 5=537919488:=(qHT ρ3 _).trans r53
 generalize qjc ρ3 (qp 4 0 0 0 0 (hi false 3235799053) 0)=ρ4 at q4 r54
 have q5:GoTo (gE I mo mr n) 1 0 50 (ρ4,s.2) 51 (ρ4,s.2.1,qcb s.2.2 537919488 (ρ4 0)):=by
  refine qS ?_ (by rw[hh];omega) (GoTo.refl _ _ _)
  rw[qbj Q.e4,qls]
  show(bif (gE I mo mr n).okW (ρ4 5) then(false,50+1,ρ4,s.2.1,qcb s.2.2 (ρ4 5) (ρ4 0)) else _)=_
  rw[r54,(qpf H).1]
  rfl
 have cases6:i=0∨i=1∨i=2∨i=3∨i=4∨i=5:=by omega
 obtain⟨_,_,n3,_⟩:=h_n H
 rcases cases6 with rfl |rfl |rfl |rfl |rfl |rfl
 ·exact⟨46,s,GoTo.refl _ _ _,by omega,up (qSx H Q f X s hO)⟩
 ·exact⟨47,_,q1,by omega,up (qTa H Q f X (ρ1,s.2) hO r51)⟩
 ·exact⟨48,_,q1.trans q2,by omega,up (qSC H Q f X (ρ2,s.2) hO r52)⟩
 ·exact⟨49,_,(q1.trans q2).trans q3,by omega,up (qS0 H Q f X (ρ3,s.2) hO r53)⟩
 ·exact⟨50,_,((q1.trans q2).trans q3).trans q4,by omega,up (qSR H Q f X (ρ4,s.2) hO r54)⟩
 ·exact⟨51,_,(((q1.trans q2).trans q3).trans q4).trans q5,by omega,up (qSf H Q (qSp I mo mr n) (by rw[hh];omega) f X (ρ4,s.2.1,qcb s.2.2 537919488 (ρ4 0)) (fun t ht=>by
   show qcb s.2.2 537919488 _ _=_
   rw[qcR _ _ (by omega)]
   exact hO t ht))⟩
theorem qHE (s:IS) (hW:s.2.2=W):∃s1 s2 s3,GoTo (gE I mo mr n) (18*mo+5) 0 0 s 19 s1∧GoTo (gE I mo mr n) (26*mo+5) 0 19 s1 46 s2∧Ends (gE I mo mr n) 6 0 46 s2 51 s3∧(∀t,t<mo→s1.2.2 (537001984+4*t)=X t)∧s2.2.2=s1.2.2∧s3.2.2=qcb s2.2.2 537919488 3235799053:=by
 have H:=qrl (I:=I) hs
 have Q:=qIw (I:=I) (n:=n) hs
 obtain⟨s1,g1,z1,k1⟩:=qQO (n:=n) (b:=true) hs hI s
 have hr:=hs.rail
 have ho:=hs.out
 have zA:∀t,t<mo→s1.2.2 (537001984+4*t)=X t:=fun t ht=>by rw[z1 t ht,hW];exact(hX t ht).1
 obtain⟨s2,g2,w2⟩:=(qJM (n:=n) hs hI s1).1 (fun t ht=>by
  obtain⟨x1,x2⟩:=hX t ht
  rw[zA t ht,k1 _ (fun t' _=>by omega),k1 _ (fun t' _=>by omega),hW,x1,x2]
  exact⟨rfl,rfl⟩)
 obtain⟨s3,g3,w3⟩:=qSc Q (qpf H).1 s2
 exact⟨s1,s2,s3,g1,g2,g3,zA,w2,w3⟩
theorem qNx (f:qX.den) (s:IS) (hW:s.2.2=W) (T:Nat) (hT:T<44*mo+16):∃jt st,GoTo (gE I mo mr n) T 0 0 s jt st∧jt<53∧qgJ (gE I mo mr n) mo mr (72*mo+56*mr+90) X (qN (gE I mo mr n) (f.1==(1:Int)) jt (qbE f st)):=by
 obtain⟨s1,s2,s3,g1,g2,g3,zA,w2,w3⟩:=qHE hs hI X W hX s hW
 rcases Nat.lt_or_ge T (18*mo+5) with h1 |h1
 ·exact qSm hs hI X W hX f s hW T h1
 ·obtain⟨t,rfl⟩:∃t,T=18*mo+5+t:=⟨T-(18*mo+5),by omega⟩
  rcases Nat.lt_or_ge t (26*mo+5) with h2 |h2
  ·obtain⟨jt,st,g,hj,hf⟩:=qSD hs hI X f s1 s2 zA g2 t h2
   exact⟨jt,st,by simpa using g1.trans g,hj,hf⟩
  ·obtain⟨i,rfl⟩:∃i,t=26*mo+5+i:=⟨t-(26*mo+5),by omega⟩
   obtain⟨jt,st,g,hj,hf⟩:=qSA hs X f s2 (by rw[w2];exact zA) i (by omega)
   refine⟨jt,st,?_,hj,hf⟩
   have:=(g1.trans g2).trans g
   rw[show 18*mo+5+(26*mo+5)+i=18*mo+5+(26*mo+5+i) by omega] at this
   exact this
theorem qH3 (f:qX.den) (m:Nat) (hf:(m:Int)≤(show Int from f.2.1)) (s:IS) (hW:s.2.2=W) (b:Nat) (hb:116*mo+56*mr+110<b) :
  ∃k c j' s',k≤116*mo+56*mr+107∧goI (gE I mo mr n) f b m (false,0,s)=(k,c,true,j',s')∧(Wp mo mr s'.2.2∨(c=0∧(s'.2.2 537919488=3235799053→∀t,t<mo→s'.2.2 (537001984+4*t)=X t))):=by
 obtain⟨T,hT⟩:∃T:Nat,(show Int from f.2.1)=(m:Int)+T:=⟨((show Int from f.2.1)-m).toNat,by omega⟩
 rcases Nat.lt_or_ge T (44*mo+16) with hlt |hge
 ·obtain⟨jt,st,g,hj,k,c2,j',s',h1,h2,h3⟩:=qNx hs hI X W hX f s hW T hlt
  obtain⟨d,rfl⟩:∃d,b=T+(d+1):=⟨b-T-1,by omega⟩
  have e1:=qsa (gE I mo mr n) f (d+1) T m (false,0,s) (by omega)
  unfold GoTo at g
  rw[g] at e1
  have e2:=qOT (gE I mo mr n) f d ((m:Int)+T) jt st hT
  rw[e2] at e1
  have e3:goN (gE I mo mr n) d (qN (gE I mo mr n) (f.1==(1:Int)) jt (qbE f st))=(k,c2,true,j',s'):=by
   obtain⟨d',rfl⟩:∃d',d=k+d':=⟨d-k,by omega⟩
   rw[qnt,h2,que _ d' rfl]
   rfl
  have e4:(jt==(gE I mo mr n).h)=false:=by
   rw[qwW]
   exact beq_eq_false_iff_ne.2 (by omega)
  rw[e3,e4] at e1
  refine⟨_,_,j',s',?_,e1,?_⟩
  ·show T+(k+1)≤_
   omega
  ·rcases h3 with h3 |⟨rfl,h3⟩
   ·exact .inl h3
   ·exact .inr ⟨rfl,h3⟩
 ·obtain⟨s1,s2,s3,g1,g2,g3,zA,w2,w3⟩:=qHE hs hI X W hX s hW
  have g:=(g1.trans g2).ends g3
  rw[show 18*mo+5+(26*mo+5)+6=44*mo+16 by omega] at g
  obtain⟨d,rfl⟩:∃d,b=44*mo+16+d:=⟨b-(44*mo+16),by omega⟩
  have e1:=qsa (gE I mo mr n) f d (44*mo+16) m (false,0,s) (by omega)
  unfold Ends at g
  rw[g] at e1
  have e2:∀k,goI (gE I mo mr n) f d k (true,51,s3)=(0,0,true,51,s3):=fun k=>by cases d<;>rfl
  rw[e2] at e1
  refine⟨_,_,_,s3,?_,e1,.inr ⟨rfl,fun _ t ht=>?_⟩⟩
  ·show 44*mo+16+0≤_
   omega
  ·have ho:=hs.out
   rw[w3,qcR _ _ (by omega),w2]
   exact zA t ht
end
end Go.Av
end
