/- Texts of the proof, one behind the other. -/
import Derived.Test.YtealbjacocgjcaaGreatRailGK32
import Derived.Test.YtealbjacocgjcaaGreatRailGK30
import Derived.WalkKit
import Derived.Defers
import Derived.Recover
import Derived.Test.YtealbjacocgjcaaGreatRailGK22
import Derived.Test.YtealbjacocgjcaaGreatProg
import Derived.WalkSpells
import Derived.WalkLawsBesides
import Derived.Lib.Builder
import Derived.Lib.Walk
import Derived.Lib.AppendStr
import Derived.Lib.UnsafeStr
import Derived.Laws.Externs
import Derived.BigRegion
import Derived.Test.YtealbjacocgjcaaGreatRailGK29
import Derived.Test.YtealbjacocgjcaaGreatRailGK21
import Derived.Deep.QuietTactic
import Derived.BigQuiet
import Derived.Test.YtealbjacocgjcaaGreatRailGK25
import Derived.Test.YtealbjacocgjcaaGreatRailGK26
import Derived.Test.YtealbjacocgjcaaGreatRailGK27
import Derived.Test.YtealbjacocgjcaaGreatRailGK31
section
namespace Go.Av
open Go
def sucIn (E:Env) (f:Nat→Bool) (j:Nat):Bool:=match E.P[j]? with
 |none=>f E.h
 |some (.op i)=>bif i.1==2 then true else f (j+1)&&(bif i.1==19||i.1==20 then f E.h else true)
 |some (.br o _ t)=>f t&&(bif o==24 then true else f (j+1))
def noStr (E:Env) (j:Nat):Bool:=match E.P[j]? with
 |some (.op i)=>!(i.1==20)
 |_=>true
theorem suc_ok {E:Env} {f:Nat→Bool} {j:Nat} (h:sucIn E f j=true) (s:IS) (hd:(stepI E false j s).1=false):f (stepI E false j s).2.1=true:=by
 unfold sucIn at h
 unfold stepI at hd ⊢
 cases hp:E.P[j]? with
 |none=>rw[hp] at h;exact h
 |some p =>
  rw[hp] at h hd
  cases p with
  |op i =>
   have hd:(doI E j i s).1=false:=hd
   show f (doI E j i s).2.1=true
   dsimp only at h
   unfold doI at hd ⊢
   cases e2:(i.1==(2:Int))
   ·rw[e2] at h
    simp only[cond_false,Bool.and_eq_true] at h
    obtain⟨h1,h3⟩:=h
    cases e19:(i.1==(19:Int))
    ·rw[e19] at h3
     cases e20:(i.1==(20:Int))
     ·cases (i.1==(23:Int))<;>exact h1
     ·rw[e20] at h3
      cases E.okW (s.1 i.2.2.1)
      ·exact h3
      ·exact h1
    ·rw[e19] at h3
     cases E.okR (s.1 i.2.2.1)
     ·exact h3
     ·exact h1
   ·rw[e2] at hd
    cases hd
  |br o c t =>
   simp only[Bool.and_eq_true] at h
   show f (bif goesF s.2.1 o c then(false,t,s) else(false,j+1,s)).2.1=true
   cases hg:goesF s.2.1 o c
   ·have ho:(o==(24:Int))=false:=by
     cases ho:(o==(24:Int))
     ·rfl
     ·unfold goesF at hg
      rw[ho] at hg
      cases hg
    rw[ho] at h
    exact h.2
   ·exact h.1
theorem step_mem {E:Env} {j:Nat} (h:noStr E j=true) (sk:Bool) (s:IS):(stepI E sk j s).2.2.2.2=s.2.2:=by
 unfold noStr at h
 unfold stepI
 cases hp:E.P[j]? with
 |none=>rfl
 |some p =>
  rw[hp] at h
  cases sk
  ·show(atI E j s p).2.2.2.2=_
   cases p with
   |op i =>
    have h:(i.1==(20:Int))=false:=by simpa using h
    show(doI E j i s).2.2.2.2=_
    unfold doI
    rw[h]
    cases (i.1==(2:Int))
    ·cases (i.1==(19:Int))
     ·cases (i.1==(23:Int))<;>rfl
     ·cases E.okR (s.1 i.2.2.1)<;>rfl
    ·rfl
   |br o c t =>
    show(bif goesF s.2.1 o c then(false,t,s) else(false,j+1,s)).2.2.2.2=_
    cases goesF s.2.1 o c<;>rfl
  ·rfl
theorem go_split {E:Env} {k c j j':Nat} {s s':IS} (h:GoTo E (k+1) c j s j' s'):∃j1 s1 c1,stepI E false j s=(false,j1,s1)∧GoTo E k c1 j1 s1 j' s'∧c=(bif j==E.h then 1 else 0)+c1:=by
 unfold GoTo at h
 rw[goN] at h
 simp only[cond_false,Prod.mk.injEq] at h
 obtain⟨h1,h2,h3⟩:=h
 generalize hq:stepI E false j s=q at *
 obtain⟨b,j1,s1⟩:=q
 cases b with
 |true =>
  rw[goN_done E k rfl] at h3
  have:=congrArg (fun x=>x.1) h3
  cases this
 |false =>
  refine⟨j1,s1,(goN E k (false,j1,s1)).2.1,rfl,?_,h2.symm⟩
  unfold GoTo
  have e1:(goN E k (false,j1,s1)).1=k:=by omega
  rw[←h3]
  exact Prod.ext e1 rfl
theorem closed_go {E:Env} {Q:Nat→Bool} (hQ:∀j,Q j=true→sucIn E (fun x=>Q x||x==E.h) j=true):∀(k:Nat) (j:Nat) (s:IS) (j':Nat) (s':IS),Q j=true→GoTo E k 0 j s j' s'→Q j'=true∨j'=E.h
 |0,j,s,j',s',hj,h=>by
  have h:((0,0,false,j,s):Nat×Nat×IO3)=(0,0,false,j',s'):=h
  injection h with _ h
  injection h with _ h
  injection h with _ h
  injection h with h _
  rw[←h]
  exact .inl hj
 |k+1,j,s,j',s',hj,h=>by
  obtain⟨j1,s1,c1,e1,g1,ec⟩:=go_split h
  have c0:c1=0:=by omega
  subst c0
  have:=suc_ok (hQ j hj) s (by rw[e1])
  rw[e1] at this
  simp only[Bool.or_eq_true,beq_iff_eq] at this
  rcases this with h1 |h1
  ·exact closed_go hQ k j1 s1 j' s' h1 g1
  ·subst h1
   cases k with
   |zero =>
    have g1:((0,0,false,E.h,s1):Nat×Nat×IO3)=(0,0,false,j',s'):=g1
    injection g1 with _ g1
    injection g1 with _ g1
    injection g1 with _ g1
    injection g1 with g1 _
    exact .inr g1.symm
   |succ k =>
    obtain⟨_,_,c2,_,_,ec2⟩:=go_split g1
    rw[beq_self_eq_true] at ec2
    simp only[cond_true] at ec2
    omega
theorem stay {E:Env} {S R:Nat→Bool} {e:Nat} (hS:∀j,S j=true→sucIn E (fun x=>S x||(x==e||x==E.h)) j=true) (hR:∀j,R j=true→sucIn E (fun x=>R x||x==E.h) j=true) (hRe:R e=false) (he:sucIn E (fun x=>R x||x==E.h) e=true) (heh:e≠E.h) :
  ∀(k:Nat) (j:Nat) (s s':IS),S j=true→GoTo E k 0 j s e s'→∀t,t<k→∃jt st,GoTo E t 0 j s jt st∧S jt=true∧((∀x,S x=true→noStr E x=true)→st.2.2=s.2.2)
 |0,_,_,_,_,_,t,ht=>by cases ht
 |k+1,j,s,s',hj,h,t,ht=>by
  cases t with
  |zero=>exact⟨j,s,GoTo.refl E j s,hj,fun _=>rfl⟩
  |succ t =>
   obtain⟨j1,s1,c1,e1,g1,ec⟩:=go_split h
   have c0:c1=0:=by omega
   subst c0
   have hjh:(j==E.h)=false:=by
    cases hb:(j==E.h)
    ·rfl
    ·rw[hb] at ec;simp only[cond_true] at ec;omega
   have:=suc_ok (hS j hj) s (by rw[e1])
   rw[e1] at this
   simp only[Bool.or_eq_true,beq_iff_eq] at this
   rcases this with h1 |h1 |h1
   ·obtain⟨jt,st,g,hst,hmem⟩:=stay hS hR hRe he heh k j1 s1 s' h1 g1 t (by omega)
    refine⟨jt,st,go_cons e1 (by simpa using hjh) g,hst,fun hx=>?_⟩
    rw[hmem hx]
    have:=step_mem (hx j hj) false s
    rw[e1] at this
    exact this
   ·subst h1
    exfalso
    cases k with
    |zero=>omega
    |succ k =>
     obtain⟨j2,s2,c2,e2,g2,ec2⟩:=go_split g1
     have c0:c2=0:=by omega
     subst c0
     have:=suc_ok he s1 (by rw[e2])
     rw[e2] at this
     simp only[Bool.or_eq_true,beq_iff_eq] at this
     rcases this with h2 |h2
     ·rcases closed_go hR k j2 s2 j1 s' h2 g2 with h3 |h3
      ·rw[hRe] at h3;cases h3
      ·exact heh h3
     ·subst h2
      cases k with
      |zero =>
       have g2:((0,0,false,E.h,s2):Nat×Nat×IO3)=(0,0,false,j1,s'):=g2
       injection g2 with _ g2
       injection g2 with _ g2
       injection g2 with _ g2
       injection g2 with g2 _
       exact heh g2.symm
      |succ k =>
       obtain⟨_,_,c3,_,_,ec3⟩:=go_split g2
       rw[beq_self_eq_true] at ec3
       simp only[cond_true] at ec3
       omega
   ·subst h1
    exfalso
    cases k with
    |zero =>
     have g1:((0,0,false,E.h,s1):Nat×Nat×IO3)=(0,0,false,e,s'):=g1
     injection g1 with _ g1
     injection g1 with _ g1
     injection g1 with _ g1
     injection g1 with g1 _
     exact heh g1.symm
    |succ k =>
     obtain⟨_,_,c3,_,_,ec3⟩:=go_split g1
     rw[beq_self_eq_true] at ec3
     simp only[cond_true] at ec3
     omega
def cfR (E:Env) (stop:Nat→Bool):Nat→Nat→Bool
 |0,j=>stop j
 |n+1,j=>stop j||(noStr E j&&(match E.P[j]? with
  |none=>cfR E stop n E.h
  |some (.op i)=>!(i.1==2)&&(cfR E stop n (j+1)&&(bif i.1==19||i.1==20 then cfR E stop n E.h else true))
  |some (.br o _ t)=>cfR E stop n t&&(bif o==24 then true else cfR E stop n (j+1))))
theorem cfR_ok {E:Env} {stop:Nat→Bool} (hh:stop E.h=true):∀(n j:Nat) (s:IS),cfR E stop n j=true→∃k j' s',k≤n∧GoTo E k 0 j s j' s'∧stop j'=true∧s'.2.2=s.2.2
 |0,j,s,h=>⟨0,j,s,Nat.le_refl _,GoTo.refl E j s,h,rfl⟩
 |n+1,j,s,h=>by
  cases hs:stop j with
  |true=>exact⟨0,j,s,Nat.zero_le _,GoTo.refl E j s,hs,rfl⟩
  |false =>
   have hj:j≠E.h:=fun e=>by rw[e,hh] at hs;cases hs
   simp only[cfR,hs,Bool.false_or,Bool.and_eq_true] at h
   obtain⟨hn,h⟩:=h
   have hd:(stepI E false j s).1=false:=by
    unfold stepI
    cases hp:E.P[j]? with
    |none=>rfl
    |some p =>
     rw[hp] at h
     cases p with
     |op i =>
      simp only[Bool.and_eq_true,Bool.not_eq_true'] at h
      show(doI E j i s).1=false
      unfold doI
      rw[h.1]
      cases (i.1==(19:Int))
      ·cases (i.1==(20:Int))
       ·cases (i.1==(23:Int))<;>rfl
       ·cases E.okW (s.1 i.2.2.1)<;>rfl
      ·cases E.okR (s.1 i.2.2.1)<;>rfl
     |br o c t =>
      show(bif goesF s.2.1 o c then(false,t,s) else(false,j+1,s)).1=false
      cases goesF s.2.1 o c<;>rfl
   have hsuc:sucIn E (fun x=>cfR E stop n x) j=true:=by
    unfold sucIn
    cases hp:E.P[j]? with
    |none=>rw[hp] at h;exact h
    |some p =>
     rw[hp] at h
     cases p with
     |op i =>
      simp only[Bool.and_eq_true,Bool.not_eq_true'] at h
      dsimp only
      rw[h.1,cond_false,h.2.1,h.2.2]
      rfl
     |br o c t =>
      simp only[Bool.and_eq_true] at h
      dsimp only
      rw[h.1,h.2]
      rfl
   have hc:=suc_ok hsuc s hd
   have hm:=step_mem hn false s
   generalize hq:stepI E false j s=q at *
   obtain⟨b,j1,s1⟩:=q
   dsimp only at hd hc hm
   subst hd
   obtain⟨k,j',s',h1,h2,h3,h4⟩:=cfR_ok hh n j1 s1 hc
   exact⟨k+1,j',s',by omega,go_cons hq hj h2,h3,by rw[h4,hm]⟩
end Go.Av
end
section
namespace Go.Av
open Go
abbrev qkG (x:dens qeV):List tIns.den:=[(3,7,0,0,0,x.1,0,false,()),(4,7,0,0,0,bif x.2.1==0 then 8196 else 8200,0,false,()),(20,x.2.2,7,0,0,0,0,false,())]
abbrev qlR:List Ty:=qeV
abbrev qlQ:Sh:=qlf
abbrev qlI (x:dens qeV):PO (Sh.den qlf):=qiy x
abbrev qkW (x:dens qeV):Bool:=qgT x
theorem qnf (x:dens qlR) (h:qkW x=true):(qlI x).val=some (qkG x):=qnv x h
def qcx:LoopN where
 M:=[2,4,7,8,10,11]
 T:=[28,29,30,31,32,33,34,35,36,37,38,39,40,41,42,43,44]
 D:=[11]
 ss:=[.ty (.int .i64),.box 0 0,.ty .str,.ty (.sl tPlace),.ty (.int .i64),.ty (.int .i64)]
 hs:=[.ty tFault]
 es:=[.exit 0]
 σ:=(Ty.den (.int .i64))×(Ty.den (.int .i64))×(Sh.den (.ty tFault))
 x0:=fun x y=>(x.2.2.2.2.1,x.2.2.2.2.2,y)
 put:=fun x _ s=>((x.1,x.2.1,x.2.2.1,x.2.2.2.1,s.1,s.2.1),s.2.2)
 fuel:=fun x _=>List.length x.2.2.2.1+1
 turn:=fun x _ s =>
 (.ite (decide (s.2.1<lenI x.2.2.2.1))
  (.ite (inRange s.2.1 (List.length x.2.2.2.1))
  (.ite (bif (List.getD x.2.2.2.1 (Int.toNat s.2.1) (Ty.dflt tPlace)).1==2 then inRange s.2.1 (List.length x.2.2.2.1) else true)
   (.ret (.on (bif (List.getD x.2.2.2.1 (Int.toNat s.2.1) (Ty.dflt tPlace)).1==2 then(List.getD x.2.2.2.1 (Int.toNat s.2.1) (Ty.dflt tPlace)).2.1 else s.1,w64 (s.2.1+1),s.2.2)))
   .fail)
  .fail)
  (.ret (.out 0 (s.1,s.2.1,s.2.2))))
def qZ:LoopN where
 M:=[2,4,8,14,16]
 T:=[17,66,67,68,69,70,71,72,73,74,75,76,77,78,79,80,81,82,83]
 D:=[4,16]
 ss:=[.ty (.int .i64),.box 0 0,.ty (.sl tPlace),.box 1 0,.ty (.int .i64)]
 hs:=[.ty tFault,shMachB 2 3,shMemB 4,.rowc tFetched,.rowc (.int .u8)]
 es:=[.exit 2]
 σ:=(Ty.den (.int .i64))×(Sh.den (.ty tFault))×(Sh.den (shMachB 2 3))×(Sh.den (shMemB 4))×(Sh.den (.rowc tFetched))×(Sh.den (.rowc (.int .u8)))
 x0:=fun x y=>(x.2.2.2.2,y.1,y.2.1,y.2.2.1,y.2.2.2.1,y.2.2.2.2)
 put:=fun x _ s=>((x.1,x.2.1,x.2.2.1,x.2.2.2.1,s.1),(s.2.1,s.2.2.1,s.2.2.2.1,s.2.2.2.2.1,s.2.2.2.2.2))
 fuel:=fun _ _=>401
 turn:=fun _ _ s =>
 (.ite (decide (s.1<400))
  (.ite (!s.2.2.1.2.2.2.2.1)
  (.ite (s.1==s.2.1.2.1)
   (.ite (qN ((),s.2.1) ((s.2.2.1.1,s.2.2.1.2.1,(),s.2.2.1.2.2.2),s.2.2.2))
   (.ret (.on (w64 (s.1+1),s.2.1,((qg ((),s.2.1) ((s.2.2.1.1,s.2.2.1.2.1,(),s.2.2.1.2.2.2),s.2.2.2)).2.1.1,(qg ((),s.2.1) ((s.2.2.1.1,s.2.2.1.2.1,(),s.2.2.1.2.2.2),s.2.2.2)).2.1.2.1,(),(qg ((),s.2.1) ((s.2.2.1.1,s.2.2.1.2.1,(),s.2.2.1.2.2.2),s.2.2.2)).2.1.2.2.2),(qg ((),s.2.1) ((s.2.2.1.1,s.2.2.1.2.1,(),s.2.2.1.2.2.2),s.2.2.2)).2.2.1,(qg ((),s.2.1) ((s.2.2.1.1,s.2.2.1.2.1,(),s.2.2.1.2.2.2),s.2.2.2)).2.2.2.1,(qg ((),s.2.1) ((s.2.2.1.1,s.2.2.1.2.1,(),s.2.2.1.2.2.2),s.2.2.2)).2.2.2.2)))
   .fail)
   (.ite (qN ((),0,0,0,0,()) ((s.2.2.1.1,s.2.2.1.2.1,(),s.2.2.1.2.2.2),s.2.2.2))
   (.ret (.on (w64 (s.1+1),s.2.1,((qg ((),0,0,0,0,()) ((s.2.2.1.1,s.2.2.1.2.1,(),s.2.2.1.2.2.2),s.2.2.2)).2.1.1,(qg ((),0,0,0,0,()) ((s.2.2.1.1,s.2.2.1.2.1,(),s.2.2.1.2.2.2),s.2.2.2)).2.1.2.1,(),(qg ((),0,0,0,0,()) ((s.2.2.1.1,s.2.2.1.2.1,(),s.2.2.1.2.2.2),s.2.2.2)).2.1.2.2.2),(qg ((),0,0,0,0,()) ((s.2.2.1.1,s.2.2.1.2.1,(),s.2.2.1.2.2.2),s.2.2.2)).2.2.1,(qg ((),0,0,0,0,()) ((s.2.2.1.1,s.2.2.1.2.1,(),s.2.2.1.2.2.2),s.2.2.2)).2.2.2.1,(qg ((),0,0,0,0,()) ((s.2.2.1.1,s.2.2.1.2.1,(),s.2.2.1.2.2.2),s.2.2.2)).2.2.2.2)))
   .fail))
  (.ret (.out 0 (s.1,s.2.1,(s.2.2.1.1,s.2.2.1.2.1,(),s.2.2.1.2.2.2),s.2.2.2.1,s.2.2.2.2.1,s.2.2.2.2.2))))
  (.ret (.out 0 (s.1,s.2.1,s.2.2.1,s.2.2.2.1,s.2.2.2.2.1,s.2.2.2.2.2))))
def qbn:LoopN where
 M:=[2,6,8,18,19]
 T:=[90,91,92,93,94,95,96,97,98,99,100,101,102,103,104,105,106,107,108,109,110,111,112,113,114,115,116,117,118,119,120,121,122,123,124,125,126]
 D:=[2,8,18,19]
 ss:=[.ty (.int .i64),.ty (.int .i64),.ty (.sl tPlace),.ty (.int .i64),.ty (.int .i64)]
 hs:=[]
 es:=[.exit 4,.ret]
 σ:=(Ty.den (.int .i64))×(Ty.den (.int .i64))
 x0:=fun x _=>(x.2.1,x.2.2.2.2)
 put:=fun x _ s=>((x.1,s.1,x.2.2.1,x.2.2.2.1,s.2),())
 fuel:=fun x _=>List.length x.2.2.1+1
 turn:=fun x _ s =>
 (.ite (decide (s.2<lenI x.2.2.1))
  (.ite (inRange s.2 (List.length x.2.2.1)&&bif decide ((List.getD x.2.2.1 (Int.toNat s.2) (Ty.dflt tPlace)).1<x.1) then inRange s.2 (List.length x.2.2.1)&&(x.2.2.2.1==(List.getD x.2.2.1 (Int.toNat s.2) (Ty.dflt tPlace)).2.1||inRange s.2 (List.length x.2.2.1)) else true)
  (.ite (decide ((List.getD x.2.2.1 (Int.toNat s.2) (Ty.dflt tPlace)).1<x.1)&&(x.2.2.2.1==(List.getD x.2.2.1 (Int.toNat s.2) (Ty.dflt tPlace)).2.1||x.2.2.2.1==w64 ((List.getD x.2.2.1 (Int.toNat s.2) (Ty.dflt tPlace)).2.1+2)))
   (.ite (inRange s.2 (List.length x.2.2.1))
   (.ret (.out 1 ((List.getD x.2.2.1 (Int.toNat s.2) (Ty.dflt tPlace)).1,s.2)))
   .fail)
   (.ret (.on (s.1,w64 (s.2+1)))))
  .fail)
  (.ret (.out 0 (s.1,s.2))))
abbrev qc0:List Ty:=[(.sl tItem),tFault,(.int .i64)]
abbrev qdX:Sh:=Sh.ty (Ty.int IntKind.i64)
def qb6 (x:dens qc0):PO (Sh.den qdX) :=
 (.ite (qb7 (x.1,64))
  (.ite ((qj (x.1,64)).2.2.1 != 0)
  (.ret (-1))
  (.opt (LoopN.res qcx (x.2.2,(),(qj (x.1,64)).1,(qj (x.1,64)).2.1,64,0) x.2.1) fun p0 =>
   (.ite (qdG ((64,p0.2.1,(0,0,64,()),0,()),(qj (x.1,64)).1))
   (.ite ((qo ((64,p0.2.1,(0,0,64,()),0,()),(qj (x.1,64)).1)).2.1 != 0)
    (.ret (-1))
    (.ite ((qv (qo ((64,p0.2.1,(0,0,64,()),0,()),(qj (x.1,64)).1)).1).2.1 != 0)
    (.ite ((qv (qo ((64,p0.2.1,(0,0,64,()),0,()),(qj (x.1,64)).1)).1).2.1 != 0||true)
     (.ret (-1))
     .fail)
    (.ite ((qw ((qv (qo ((64,p0.2.1,(0,0,64,()),0,()),(qj (x.1,64)).1)).1).1.2.2.1,lenI (qo ((64,p0.2.1,(0,0,64,()),0,()),(qj (x.1,64)).1)).1)).2.1 != 0)
     (.ite ((qw ((qv (qo ((64,p0.2.1,(0,0,64,()),0,()),(qj (x.1,64)).1)).1).1.2.2.1,lenI (qo ((64,p0.2.1,(0,0,64,()),0,()),(qj (x.1,64)).1)).1)).2.1 != 0)
     (.ite ((qw ((qv (qo ((64,p0.2.1,(0,0,64,()),0,()),(qj (x.1,64)).1)).1).1.2.2.1,lenI (qo ((64,p0.2.1,(0,0,64,()),0,()),(qj (x.1,64)).1)).1)).2.1 != 0||true)
      (.ret (-1))
      .fail)
     (.ite (roomOk (w64 (w64 (Int.tdiv (lenI (qo ((64,p0.2.1,(0,0,64,()),0,()),(qj (x.1,64)).1)).1) 2)+1)) 80)
      .fail
      .fail))
     (.ite (0 != (qv (qo ((64,p0.2.1,(0,0,64,()),0,()),(qj (x.1,64)).1)).1).1.2.2.1.1)
     (.ret (-1))
     (.opt (LoopN.res qd6 ((qo ((64,p0.2.1,(0,0,64,()),0,()),(qj (x.1,64)).1)).1,[],(qw ((qv (qo ((64,p0.2.1,(0,0,64,()),0,()),(qj (x.1,64)).1)).1).1.2.2.1,lenI (qo ((64,p0.2.1,(0,0,64,()),0,()),(qj (x.1,64)).1)).1)).1,0,(qw ((qv (qo ((64,p0.2.1,(0,0,64,()),0,()),(qj (x.1,64)).1)).1).1.2.2.1,lenI (qo ((64,p0.2.1,(0,0,64,()),0,()),(qj (x.1,64)).1)).1)).1,lenI (qw ((qv (qo ((64,p0.2.1,(0,0,64,()),0,()),(qj (x.1,64)).1)).1).1.2.2.1,lenI (qo ((64,p0.2.1,(0,0,64,()),0,()),(qj (x.1,64)).1)).1)).1,0) ()) fun p1 =>
      (.ite (roomOk p1.2.1 1)
      (.opt (LoopN.res qdw ((qo ((64,p0.2.1,(0,0,64,()),0,()),(qj (x.1,64)).1)).1,[],(),(0,nspan 0 p1.2.1),(qw ((qv (qo ((64,p0.2.1,(0,0,64,()),0,()),(qj (x.1,64)).1)).1).1.2.2.1,lenI (qo ((64,p0.2.1,(0,0,64,()),0,()),(qj (x.1,64)).1)).1)).1,lenI (qw ((qv (qo ((64,p0.2.1,(0,0,64,()),0,()),(qj (x.1,64)).1)).1).1.2.2.1,lenI (qo ((64,p0.2.1,(0,0,64,()),0,()),(qj (x.1,64)).1)).1)).1,0) (((qw ((qv (qo ((64,p0.2.1,(0,0,64,()),0,()),(qj (x.1,64)).1)).1).1.2.2.1,lenI (qo ((64,p0.2.1,(0,0,64,()),0,()),(qj (x.1,64)).1)).1)).1,[],()),zeros p1.2.1 0)) fun p2 =>
       (.ite (inRange 0 (List.length p2.2.2.2.1.2.1))
       (.ite (inRange 1 (List.length p2.2.2.2.1.2.1))
        (.ite (roomOk (w64 (w64 (Int.tdiv (lenI (qo ((64,p0.2.1,(0,0,64,()),0,()),(qj (x.1,64)).1)).1) 2)+1)) 80)
        (.opt (LoopN.res qZ (x.2.2,(),(qj (x.1,64)).2.1,(),0) (p0.2.2.2,((qv (qo ((64,p0.2.1,(0,0,64,()),0,()),(qj (x.1,64)).1)).1).1,(qo ((64,p0.2.1,(0,0,64,()),0,()),(qj (x.1,64)).1)).1,(),(List.set (List.set [0,0,0,0,0,0,0,0,0,0,0,0,0,0,0] 13 537133056) 14 (qby 0),(qv (qo ((64,p0.2.1,(0,0,64,()),0,()),(qj (x.1,64)).1)).1).1.1,false,false,false,false,()),false,(0,nspan 0 (w64 (w64 (Int.tdiv (lenI (qo ((64,p0.2.1,(0,0,64,()),0,()),(qj (x.1,64)).1)).1) 2)+1))),()),p2.2.2.2.1,zeros (w64 (w64 (Int.tdiv (lenI (qo ((64,p0.2.1,(0,0,64,()),0,()),(qj (x.1,64)).1)).1) 2)+1)) ((0,0,0,0,0,0,0,false,()),0,false,false,()),mend (mend p2.2.2.2.2 (wAt p2.2.2.2.1.2.1 0).1 (strInts (qo ((64,p0.2.1,(0,0,64,()),0,()),(qj (x.1,64)).1)).1) (wAt p2.2.2.2.1.2.1 0).2) (wAt p2.2.2.2.1.2.1 1).1 (strInts []) (wAt p2.2.2.2.1.2.1 1).2)) fun p3 =>
         (.ite (!p3.2.2.2.1.2.2.2.2.1)
         (.ret (-1))
         (.opt (LoopN.res qbn (x.2.2,0,(qj (x.1,64)).2.1,p3.2.2.2.1.2.2.2.1.2.1,0) ()) fun p4 =>
          (.ite (way p4.1)
          (.ret (-1))
          (.ret (p4.2.1))))))
        .fail)
        .fail)
       .fail))
      .fail))))))
   .fail)))
  .fail)
def qP (x:dens qc0):Bool:=(qb6 x).val.isSome
def qu (x:dens qc0):Sh.den qdX:=(qb6 x).getO default
theorem qk2 (x:dens qc0) (h:qP x=true):(qb6 x).val=some (qu x):=PO.getO_ok default h
def qbb:LoopN where
 M:=[0,1,2,7,9,10,11,12]
 T:=[38,39,40,41,42,43,44,45,46,47,48,49,50]
 D:=[11,12]
 ss:=[.ty (.int .i64),.ty (.int .i64),.ty (.int .i64),.box 0 0,.osl 0 tItem,.ty (.int .i64),.ty (.sl tItem),.ty (.int .i64)]
 hs:=[.ty tFault]
 es:=[.exit 0]
 σ:=(List (Ty.den tItem))×(Ty.den (.int .i64))×(Sh.den (.ty tFault))
 x0:=fun x y=>(x.2.2.2.2.1,x.2.2.2.2.2.2.2,y)
 put:=fun x _ s=>((x.1,x.2.1,x.2.2.1,x.2.2.2.1,s.1,x.2.2.2.2.2.1,x.2.2.2.2.2.2.1,s.2.1),s.2.2)
 fuel:=fun x _=>List.length x.2.2.2.2.2.2.1+1
 turn:=fun x _ s =>
 (.ite (decide (s.2.1<lenI x.2.2.2.2.2.2.1))
  (.ite (inRange s.2.1 (List.length x.2.2.2.2.2.2.1))
  (.ite (Nat.ble ((List.length s.1+List.length [List.getD x.2.2.2.2.2.2.1 (Int.toNat s.2.1) (Ty.dflt tItem)])*80) 140737488355328)
   (.ret (.on (s.1++[List.getD x.2.2.2.2.2.2.1 (Int.toNat s.2.1) (Ty.dflt tItem)],w64 (s.2.1+1),s.2.2)))
   .fail)
  .fail)
  (.ret (.out 0 (s.1,s.2.1,s.2.2))))
def qbg:LoopN where
 M:=[0,1,5,7,8,9,11]
 T:=[38,39,40,41,42,43,44,45,46,47,48,49,50]
 D:=[9,11]
 ss:=[.ty (.int .i64),.ty (.int .i64),.box 0 0,.osl 0 tItem,.ty (.int .i64),.ty (.sl tItem),.ty (.int .i64)]
 hs:=[.ty tFault]
 es:=[.exit 0]
 σ:=(List (Ty.den tItem))×(Ty.den (.int .i64))×(Sh.den (.ty tFault))
 x0:=fun x y=>(x.2.2.2.1,x.2.2.2.2.2.2,y)
 put:=fun x _ s=>((x.1,x.2.1,x.2.2.1,s.1,x.2.2.2.2.1,x.2.2.2.2.2.1,s.2.1),s.2.2)
 fuel:=fun x _=>List.length x.2.2.2.2.2.1+1
 turn:=fun x _ s =>
 (.ite (decide (s.2.1<lenI x.2.2.2.2.2.1))
  (.ite (inRange s.2.1 (List.length x.2.2.2.2.2.1))
  (.ite (Nat.ble ((List.length s.1+List.length [List.getD x.2.2.2.2.2.1 (Int.toNat s.2.1) (Ty.dflt tItem)])*80) 140737488355328)
   (.ret (.on (s.1++[List.getD x.2.2.2.2.2.1 (Int.toNat s.2.1) (Ty.dflt tItem)],w64 (s.2.1+1),s.2.2)))
   .fail)
  .fail)
  (.ret (.out 0 (s.1,s.2.1,s.2.2))))
abbrev qS:List Ty:=[(.int .i64),(.int .i64),(.int .i64),tFault]
abbrev qkb:Sh:=Sh.ty Ty.bool
def qdN (x:dens qS):PO (Sh.den qkb) :=
 (.ite (decide (x.1<8)||(decide (x.1 > 60000)||true))
  (.ite (decide (x.1<8)||(decide (x.1 > 60000)||qp x.2.2.2 != 0))
  (.ret (true))
  (.ite (qgT (0,0,3))
   (.ite (qgT (0,1,3))
   (.opt (LoopN.res qbb (x.1,x.2.1,x.2.2.1,(),[(0,0,(3,3,0,0,0,band IntKind.i64 x.2.1 65535,0,false,()),()),(0,0,(4,3,0,0,0,band IntKind.i64 (ishr IntKind.i64 x.2.1 16) 65535,0,false,()),()),(0,0,(3,7,0,0,0,0,0,false,()),()),(0,0,(4,7,0,0,0,8196,0,false,()),()),(0,0,(20,3,7,0,0,0,0,false,()),()),(0,0,(3,3,0,0,0,band IntKind.i64 x.2.2.1 65535,0,false,()),()),(0,0,(4,3,0,0,0,band IntKind.i64 (ishr IntKind.i64 x.2.2.1 16) 65535,0,false,()),()),(0,0,(3,7,0,0,0,0,0,false,()),()),(0,0,(4,7,0,0,0,8200,0,false,()),()),(0,0,(20,3,7,0,0,0,0,false,()),())],10,qcF (x.1,2),0) x.2.2.2) fun p0 =>
    (.ite (Nat.ble ((List.length p0.2.1+List.length [(1,0,(0,0,0,0,0,0,0,false,()),()),(0,0,(2,0,0,0,0,0,0,false,()),()),(0,0,(2,0,0,0,0,0,0,false,()),())])*80) 140737488355328)
    (.ite (Nat.ble ((List.length (p0.2.1++[(1,0,(0,0,0,0,0,0,0,false,()),()),(0,0,(2,0,0,0,0,0,0,false,()),()),(0,0,(2,0,0,0,0,0,0,false,()),())])+List.length [(1,2,(0,0,0,0,0,0,0,false,()),()),(0,0,(2,0,0,0,0,2,0,false,()),()),(0,0,(2,0,0,0,0,2,0,false,()),())])*80) 140737488355328)
     (.ite (qP (p0.2.1++[(1,0,(0,0,0,0,0,0,0,false,()),()),(0,0,(2,0,0,0,0,0,0,false,()),()),(0,0,(2,0,0,0,0,0,0,false,()),())]++[(1,2,(0,0,0,0,0,0,0,false,()),()),(0,0,(2,0,0,0,0,2,0,false,()),()),(0,0,(2,0,0,0,0,2,0,false,()),())],(0,0,0,0,()),3))
     (.ite (!(band IntKind.i64 x.2.1 4294967295==qn x.1&&band IntKind.i64 x.2.2.1 4294967295==qn x.1)==(qu (p0.2.1++[(1,0,(0,0,0,0,0,0,0,false,()),()),(0,0,(2,0,0,0,0,0,0,false,()),()),(0,0,(2,0,0,0,0,0,0,false,()),())]++[(1,2,(0,0,0,0,0,0,0,false,()),()),(0,0,(2,0,0,0,0,2,0,false,()),()),(0,0,(2,0,0,0,0,2,0,false,()),())],(0,0,0,0,()),3)==0)||!(band IntKind.i64 x.2.1 4294967295==qn x.1&&band IntKind.i64 x.2.2.1 4294967295==qn x.1)&&qu (p0.2.1++[(1,0,(0,0,0,0,0,0,0,false,()),()),(0,0,(2,0,0,0,0,0,0,false,()),()),(0,0,(2,0,0,0,0,0,0,false,()),())]++[(1,2,(0,0,0,0,0,0,0,false,()),()),(0,0,(2,0,0,0,0,2,0,false,()),()),(0,0,(2,0,0,0,0,2,0,false,()),())],(0,0,0,0,()),3) != 2)
      (.ret (false))
      (.ite (!(band IntKind.i64 x.2.1 4294967295==qn x.1&&band IntKind.i64 x.2.2.1 4294967295==qn x.1)||(decide (p0.2.2.2.2.1<10)||decide (p0.2.2.2.2.1 > 1000)))
      (.ret (true))
      (.ite (qP (p0.2.1++[(1,0,(0,0,0,0,0,0,0,false,()),()),(0,0,(2,0,0,0,0,0,0,false,()),()),(0,0,(2,0,0,0,0,0,0,false,()),())]++[(1,2,(0,0,0,0,0,0,0,false,()),()),(0,0,(2,0,0,0,0,2,0,false,()),()),(0,0,(2,0,0,0,0,2,0,false,()),())],p0.2.2.2,3))
       (.ite (qu (p0.2.1++[(1,0,(0,0,0,0,0,0,0,false,()),()),(0,0,(2,0,0,0,0,0,0,false,()),()),(0,0,(2,0,0,0,0,0,0,false,()),())]++[(1,2,(0,0,0,0,0,0,0,false,()),()),(0,0,(2,0,0,0,0,2,0,false,()),()),(0,0,(2,0,0,0,0,2,0,false,()),())],p0.2.2.2,3)==0||(qu (p0.2.1++[(1,0,(0,0,0,0,0,0,0,false,()),()),(0,0,(2,0,0,0,0,0,0,false,()),()),(0,0,(2,0,0,0,0,0,0,false,()),())]++[(1,2,(0,0,0,0,0,0,0,false,()),()),(0,0,(2,0,0,0,0,2,0,false,()),()),(0,0,(2,0,0,0,0,2,0,false,()),())],p0.2.2.2,3)==2||true))
       (.ret (qu (p0.2.1++[(1,0,(0,0,0,0,0,0,0,false,()),()),(0,0,(2,0,0,0,0,0,0,false,()),()),(0,0,(2,0,0,0,0,0,0,false,()),())]++[(1,2,(0,0,0,0,0,0,0,false,()),()),(0,0,(2,0,0,0,0,2,0,false,()),()),(0,0,(2,0,0,0,0,2,0,false,()),())],p0.2.2.2,3)==0||qu (p0.2.1++[(1,0,(0,0,0,0,0,0,0,false,()),()),(0,0,(2,0,0,0,0,0,0,false,()),()),(0,0,(2,0,0,0,0,0,0,false,()),())]++[(1,2,(0,0,0,0,0,0,0,false,()),()),(0,0,(2,0,0,0,0,2,0,false,()),()),(0,0,(2,0,0,0,0,2,0,false,()),())],p0.2.2.2,3)==2&&true))
       .fail)
       .fail)))
     .fail)
     .fail)
    .fail))
   .fail)
   .fail))
  .fail)
abbrev q6:List Ty:=[(.int .i64),(.int .i64),tFault]
abbrev qkz:Sh:=Sh.ty Ty.bool
def qem (x:dens q6):PO (Sh.den qkz) :=
 (.ite (qgT (4,0,3))
  (.ite (qgT (4,1,3))
  (.ite ((qb5 ((2,0,0,1,()),7,2)).2.1 != 0||true)
   (.ite ((qb5 ((2,0,0,1,()),7,2)).2.1 != 0||qp x.2.2 != 0)
   (.ite ((qb5 ((2,0,0,1,()),7,2)).2.1==0||true)
    (.ret ((qb5 ((2,0,0,1,()),7,2)).2.1==0&&true))
    .fail)
   (.opt (LoopN.res qbg (x.1,x.2.1,(),[(0,0,(3,3,0,0,0,band IntKind.i64 x.1 65535,0,false,()),()),(0,0,(4,3,0,0,0,band IntKind.i64 (ishr IntKind.i64 x.1 16) 65535,0,false,()),()),(0,0,(3,7,0,0,0,4,0,false,()),()),(0,0,(4,7,0,0,0,8196,0,false,()),()),(0,0,(20,3,7,0,0,0,0,false,()),()),(0,0,(3,3,0,0,0,band IntKind.i64 x.2.1 65535,0,false,()),()),(0,0,(4,3,0,0,0,band IntKind.i64 (ishr IntKind.i64 x.2.1 16) 65535,0,false,()),()),(0,0,(3,7,0,0,0,4,0,false,()),()),(0,0,(4,7,0,0,0,8200,0,false,()),()),(0,0,(20,3,7,0,0,0,0,false,()),())],10,(qb5 ((2,0,0,1,()),7,2)).1,0) x.2.2) fun p0 =>
    (.ite (Nat.ble ((List.length p0.2.1+List.length [(1,0,(0,0,0,0,0,0,0,false,()),()),(0,0,(2,0,0,0,0,0,0,false,()),()),(0,0,(2,0,0,0,0,0,0,false,()),())])*80) 140737488355328)
    (.ite (Nat.ble ((List.length (p0.2.1++[(1,0,(0,0,0,0,0,0,0,false,()),()),(0,0,(2,0,0,0,0,0,0,false,()),()),(0,0,(2,0,0,0,0,0,0,false,()),())])+List.length [(1,1,(0,0,0,0,0,0,0,false,()),()),(0,0,(2,0,0,0,0,1,0,false,()),()),(0,0,(2,0,0,0,0,1,0,false,()),())])*80) 140737488355328)
     (.ite (Nat.ble ((List.length (p0.2.1++[(1,0,(0,0,0,0,0,0,0,false,()),()),(0,0,(2,0,0,0,0,0,0,false,()),()),(0,0,(2,0,0,0,0,0,0,false,()),())]++[(1,1,(0,0,0,0,0,0,0,false,()),()),(0,0,(2,0,0,0,0,1,0,false,()),()),(0,0,(2,0,0,0,0,1,0,false,()),())])+List.length [(1,2,(0,0,0,0,0,0,0,false,()),()),(0,0,(2,0,0,0,0,2,0,false,()),()),(0,0,(2,0,0,0,0,2,0,false,()),())])*80) 140737488355328)
     (.ite (qP (p0.2.1++[(1,0,(0,0,0,0,0,0,0,false,()),()),(0,0,(2,0,0,0,0,0,0,false,()),()),(0,0,(2,0,0,0,0,0,0,false,()),())]++[(1,1,(0,0,0,0,0,0,0,false,()),()),(0,0,(2,0,0,0,0,1,0,false,()),()),(0,0,(2,0,0,0,0,1,0,false,()),())]++[(1,2,(0,0,0,0,0,0,0,false,()),()),(0,0,(2,0,0,0,0,2,0,false,()),()),(0,0,(2,0,0,0,0,2,0,false,()),())],(0,0,0,0,()),3))
      (.ite (qu (p0.2.1++[(1,0,(0,0,0,0,0,0,0,false,()),()),(0,0,(2,0,0,0,0,0,0,false,()),()),(0,0,(2,0,0,0,0,0,0,false,()),())]++[(1,1,(0,0,0,0,0,0,0,false,()),()),(0,0,(2,0,0,0,0,1,0,false,()),()),(0,0,(2,0,0,0,0,1,0,false,()),())]++[(1,2,(0,0,0,0,0,0,0,false,()),()),(0,0,(2,0,0,0,0,2,0,false,()),()),(0,0,(2,0,0,0,0,2,0,false,()),())],(0,0,0,0,()),3) != bif band IntKind.i64 x.1 4294967295==4294967295&&band IntKind.i64 x.2.1 4294967295==4294967295 then 0 else bif band IntKind.i64 x.1 4294967295==0&&band IntKind.i64 x.2.1 4294967295==0 then 1 else 2)
      (.ret (false))
      (.ite ((bif band IntKind.i64 x.1 4294967295==4294967295&&band IntKind.i64 x.2.1 4294967295==4294967295 then(0:Int) else bif band IntKind.i64 x.1 4294967295==0&&band IntKind.i64 x.2.1 4294967295==0 then 1 else 2)==2||(decide (p0.2.2.2.2.1<10)||decide (p0.2.2.2.2.1 > 1000)))
       (.ret (true))
       (.ite (qP (p0.2.1++[(1,0,(0,0,0,0,0,0,0,false,()),()),(0,0,(2,0,0,0,0,0,0,false,()),()),(0,0,(2,0,0,0,0,0,0,false,()),())]++[(1,1,(0,0,0,0,0,0,0,false,()),()),(0,0,(2,0,0,0,0,1,0,false,()),()),(0,0,(2,0,0,0,0,1,0,false,()),())]++[(1,2,(0,0,0,0,0,0,0,false,()),()),(0,0,(2,0,0,0,0,2,0,false,()),()),(0,0,(2,0,0,0,0,2,0,false,()),())],p0.2.2.2,3))
       (.ite ((qu (p0.2.1++[(1,0,(0,0,0,0,0,0,0,false,()),()),(0,0,(2,0,0,0,0,0,0,false,()),()),(0,0,(2,0,0,0,0,0,0,false,()),())]++[(1,1,(0,0,0,0,0,0,0,false,()),()),(0,0,(2,0,0,0,0,1,0,false,()),()),(0,0,(2,0,0,0,0,1,0,false,()),())]++[(1,2,(0,0,0,0,0,0,0,false,()),()),(0,0,(2,0,0,0,0,2,0,false,()),()),(0,0,(2,0,0,0,0,2,0,false,()),())],p0.2.2.2,3)==bif band IntKind.i64 x.1 4294967295==4294967295&&band IntKind.i64 x.2.1 4294967295==4294967295 then 0 else bif band IntKind.i64 x.1 4294967295==0&&band IntKind.i64 x.2.1 4294967295==0 then 1 else 2)||(qu (p0.2.1++[(1,0,(0,0,0,0,0,0,0,false,()),()),(0,0,(2,0,0,0,0,0,0,false,()),()),(0,0,(2,0,0,0,0,0,0,false,()),())]++[(1,1,(0,0,0,0,0,0,0,false,()),()),(0,0,(2,0,0,0,0,1,0,false,()),()),(0,0,(2,0,0,0,0,1,0,false,()),())]++[(1,2,(0,0,0,0,0,0,0,false,()),()),(0,0,(2,0,0,0,0,2,0,false,()),()),(0,0,(2,0,0,0,0,2,0,false,()),())],p0.2.2.2,3)==2||true))
        (.ret ((qu (p0.2.1++[(1,0,(0,0,0,0,0,0,0,false,()),()),(0,0,(2,0,0,0,0,0,0,false,()),()),(0,0,(2,0,0,0,0,0,0,false,()),())]++[(1,1,(0,0,0,0,0,0,0,false,()),()),(0,0,(2,0,0,0,0,1,0,false,()),()),(0,0,(2,0,0,0,0,1,0,false,()),())]++[(1,2,(0,0,0,0,0,0,0,false,()),()),(0,0,(2,0,0,0,0,2,0,false,()),()),(0,0,(2,0,0,0,0,2,0,false,()),())],p0.2.2.2,3)==bif band IntKind.i64 x.1 4294967295==4294967295&&band IntKind.i64 x.2.1 4294967295==4294967295 then 0 else bif band IntKind.i64 x.1 4294967295==0&&band IntKind.i64 x.2.1 4294967295==0 then 1 else 2)||qu (p0.2.1++[(1,0,(0,0,0,0,0,0,0,false,()),()),(0,0,(2,0,0,0,0,0,0,false,()),()),(0,0,(2,0,0,0,0,0,0,false,()),())]++[(1,1,(0,0,0,0,0,0,0,false,()),()),(0,0,(2,0,0,0,0,1,0,false,()),()),(0,0,(2,0,0,0,0,1,0,false,()),())]++[(1,2,(0,0,0,0,0,0,0,false,()),()),(0,0,(2,0,0,0,0,2,0,false,()),()),(0,0,(2,0,0,0,0,2,0,false,()),())],p0.2.2.2,3)==2&&true))
        .fail)
       .fail)))
      .fail)
     .fail)
     .fail)
    .fail)))
   .fail)
  .fail)
  .fail)
end Go.Av
end
section
namespace Go.Proofs.YtealbjacocgjcaaGreat
open Go Go.Av Go.Proofs Go.RowKit
noncomputable def stepRest:Code:=match Tryz.f79.body with
 |some (.seq _ r)=>r
 |_=>.skip
theorem trapZero (w:World):(Instr.typeAssert .nilIface 20 148 true).run Tryz.prog w=.ok (.tuple #[.agg #[.int .i64 0],.bool false]) w:=by
 kernel_rfl
theorem trapSome (v:Value) (w:World):(Instr.typeAssert (.iface 148 v) 20 148 true).run Tryz.prog w=.ok (.tuple #[v,.bool true]) w:=by
 kernel_rfl
theorem step_enter (cap:Array Value) (w:World):(invoke (.fn (.func 79) cap) #[]).run Tryz.prog w=.ok (.enter 79 cap) w:=by
 have h1 : (Tryz.f79.name == "runtime.NumGoroutine") = false := by kernel_rfl
 have h2:Tryz.f79.body.isNone=false:=by kernel_rfl
 have h3:Tryz.prog.funcs[79]?=some Tryz.f79:=Tryz.func79
 simp only[invoke,callFunc]
 rw[show(#[]:Array Value)++cap=cap by simp]
 simp only[Sem.run_bind,run_program,Result.andThen_ok,h3,h1,h2,Bool.false_eq_true,if_false]
 rfl
set_option maxRecDepth 100000 in
set_option maxHeartbeats 2000000 in
theorem step_catches:Catches Tryz.prog 79 148 Tryz.f79 stepRest where
 enter:=step_enter
 idle:=fun p0 p1 p2 w=>by
  refine callsD_of_wpS (c:=.seq (.region _ _ false) stepRest) Tryz.func79 rfl fun c₀ cs hu=>?_
  simp only[Tryz.ntmps79,List.size_toArray,List.length_cons,List.length_nil,Nat.reduceAdd,Nat.reduceSub,Array.replicate_succ,Array.replicate_zero,List.push_toArray,List.append_toArray,List.nil_append,List.cons_append]
  apply wpS_seq
  apply wpS_region
  simp[wpOpsS,go_sem,recoverD,hu,Exit.thenS,trapZero]
  refine wpS_of_wp ?_
  refine Code.wp_mono (Q:=fun e a' w'=>e=.normal∧a'.defers=[]∧w'=w.alloc (.cells #[.int .i64 0] 148)) (fun e a' w' hq=>?_) ?_
  ·obtain⟨rfl,hd,rfl⟩:=hq
   exact⟨hd,.returning,by rw[←hu],_,results_none rfl _ _ _,⟨_,rfl⟩,rfl,rfl⟩
  ·show Code.wp _ (.seq (.region _ _ false) (.cond (.tmp 10) _ .skip)) _ _ _
   refine wp_seq (wp_region ?_)
   simp[wpOps,go_sem,Exit.then]
   refine .inl (wp_cond (t:=false) ?_ ?_)
   ·simp[Act.eval]
   simp only[Bool.false_eq_true,if_false]
   exact wp_skip ⟨rfl,rfl,rfl⟩
 caught:=fun p0 p1 p2 m w Rr h=>by
  refine callsD_of_wpS (c:=.seq (.region _ _ false) stepRest) Tryz.func79 rfl fun c₀ cs hu=>?_
  simp only[Tryz.ntmps79,List.size_toArray,List.length_cons,List.length_nil,Nat.reduceAdd,Nat.reduceSub,Array.replicate_succ,Array.replicate_zero,List.push_toArray,List.append_toArray,List.nil_append,List.cons_append]
  apply wpS_seq
  apply wpS_region
  simp[wpOpsS,go_sem,recoverD,hu,Exit.thenS,trapSome]
  refine wpS_of_wp (Code.wp_mono (fun e a' w' hq=>?_) (h _ rfl rfl rfl rfl rfl rfl))
  obtain⟨he,hd,hr⟩:=hq
  rcases he with rfl |rfl
  ·exact⟨hd,_,rfl,_,results_none rfl _ _ _,⟨_,rfl⟩,rfl,hr⟩
  ·exact⟨hd,_,rfl,_,results_none rfl _ _ _,⟨_,rfl⟩,rfl,hr⟩
theorem step_ok {C:Ctx} (hC:Av.Good C) (hP:C.P=Tryz.prog) (unroll d:Nat):BodyOk C.P 42 (evStep C drawOk unroll d 42 79 148) :=
 evStep_ok hC (gn:=Tryz.f79) (rest:=stepRest) (by rw[hP];exact Tryz.func79) rfl (by rw[hP];exact step_catches)
end Go.Proofs.YtealbjacocgjcaaGreat
end
section
namespace Go.Proofs.YtealbjacocgjcaaGreat
open Go Go.RowKit Go.Av Go.Proofs
section
variable {P:Program} (w:World)
theorem run_app_new (t u ty e:TypeId) (i:TypeInfo) (ht:P.underlying t=some (.slice e)) (hu:P.underlying u=some .string) (hi:P.info? e=some i) (hz:i.zero=some (.int .u8 0))
  (hsize:i.size=1) (hby:i.bytes=1) (v:Value) (n:Nat) (xs:List Value) (hown:w.ownsRow 0 e 1 v n xs) (s:ByteArray) (hlen:n+s.size≤140737488355328) :
  ∃v' w',(Builtin.append_ #[t,u] ty #[v,.string s]).run P w=.ok v' w'∧w'.ownsRow 0 e 1 v' (n+s.size) (xs++Lib.strCells s)∧w.grownBy w' v.ownBlock∧(v'.ownBlock=v.ownBlock∨∀k,v'.ownBlock=some k→w.heap.size≤k):=by
 have h63:n+s.size≤maxLen:=by unfold maxLen;omega
 obtain⟨v',w',hr,ho,hg,_⟩:=Lib.run_append_own_string (P:=P) w 0 t u ty e i ht hu hi hz hsize hby v n xs hown s h63 hlen (Nat.zero_le _)
 refine⟨v',w',hr,ho,hg,?_⟩
 have hxl:xs.length=n:=by simpa using hown.1
 rcases hown.2 with⟨rfl,rfl⟩ |⟨g,cap,cur,rfl,hbg,hgg,hnc,hcm,hcs,htake⟩
 ·obtain⟨v2,w2,hr2,ho2,_,_⟩:=Lib.run_append_own_string (P:=P) w w.heap.size t u ty e i ht hu hi hz hsize hby (.slice none 0 0) 0 xs ⟨hown.1,.inl ⟨rfl,rfl⟩⟩ s h63 hlen (Nat.le_refl _)
  rw[hr] at hr2
  cases hr2
  exact .inr fun k hk=>(ho2.lt k hk).1
 ·have hcs':cur.size=cap:=by simpa using hcs
  by_cases hroom:n+s.size≤cap
  ·have hr2:=Lib.run_append_room_string (P:=P) w t u ty e i ht hu hi hsize g n cap cur hgg s hroom (by omega)
   rw[hr] at hr2
   cases hr2
   exact .inl rfl
  ·have holds:∀j u,xs[j]?=some u→w.cell? ((⟨g,0,none⟩:Addr).add j)=some u:=hown.cells (g:=g) rfl
   have hr2:=Lib.run_append_grow_string (P:=P) w t u ty e i (.int .u8 0) ht hu hi hz ⟨g,0,none⟩ n cap xs (by rw[hsize];simpa using hxl) holds s (by omega) (by omega) (by rw[hby];exact growslice_fits (by omega) (by omega))
   rw[hr] at hr2
   cases hr2
   exact .inr fun k hk=>by simp only[Value.ownBlock,Option.some.injEq] at hk;omega
theorem wpList_app_new {w:World} {ops:Array Oper} {rest:List Oper} {o:Oper} {a:Act} {Q:Exit→Act→World→Prop} (hgd:o.guard=none) (sl x:Operand) (t u:TypeId)
  (ho:o.op=.call {callee:=.builtin .append,args:=#[sl,x],argTypes:=#[t,u]})
  (e:TypeId) (i:TypeInfo) (ht:P.underlying t=some (.slice e)) (hu:P.underlying u=some .string) (hi:P.info? e=some i) (hz:i.zero=some (.int .u8 0))
  (hsize:i.size=1) (hby:i.bytes=1)
  (v:Value) (n:Nat) (xs:List Value) (hs:a.eval sl=v) (hown:w.ownsRow 0 e 1 v n xs) (s:ByteArray) (hx:a.eval x=.string s) (hlen:n+s.size≤140737488355328)
  (h:∀v' w',w'.ownsRow 0 e 1 v' (n+s.size) (xs++Lib.strCells s)→w.grownBy w' v.ownBlock→(v'.ownBlock=v.ownBlock∨∀k,v'.ownBlock=some k→w.heap.size≤k)→wpList P ops Q rest (a.put o.dst v') w'):wpList P ops Q (o::rest) a w:=by
 refine wpList_plain hgd fun K hK=>?_
 obtain⟨v',w',hr,h2,h3,h4⟩:=run_app_new (P:=P) w t u o.type e i ht hu hi hz hsize hby v n xs hown s hlen
 unfold Oper.wp execOp
 simp only[ho,resolve,invoke,builtin,Sem.run_bind,Sem.run_pure,Result.andThen_ok,List.map_toArray,List.map_cons,List.map_nil,hs,hx,hr]
 exact hK _ _ (h v' w' h2 h3 h4)
end
set_option maxRecDepth 100000 in
set_option maxHeartbeats 4000000 in
theorem copy_used (b:Nat) (w:World) (h0:w.cell? ⟨b,0,none⟩=some (.pointer (some ⟨b,0,none⟩))) :
  Calls Tryz.prog 108 #[.pointer (some ⟨b,0,none⟩)] w fun e w'=>e=.returned (.tuple #[])∧w'=w:=by
 have hq:(binOp .neq 125 (.pointer (some ⟨b,0,none⟩)) (.pointer (some ⟨b,0,none⟩))).run Tryz.prog w=.ok (.bool false) w:=by
  obtain⟨j,hj,_⟩:=Option.map_eq_some_iff.1 (show(Tryz.prog.info? 127).map (fun i=>i.size)=some 2 by kernel_rfl)
  exact Lib.run_neq_ptr_same w ⟨b,0,none⟩ (show Tryz.prog.underlying 125=some (.pointer 127) by kernel_rfl) hj
 go_enter Tryz.func108,Tryz.ntmps108
 go_wp2
 go_end0
 exact⟨rfl,rfl⟩
set_option maxRecDepth 100000 in
set_option maxHeartbeats 4000000 in
theorem copy_fresh (b:Nat) (w:World) (h0:w.cell? ⟨b,0,none⟩=some (.pointer none)) (hsh:w.shape? b=some (127,2)) (hfz:w.frozen? ⟨b,0,none⟩=false) :
  Calls Tryz.prog 108 #[.pointer (some ⟨b,0,none⟩)] w fun e w'=>e=.returned (.tuple #[])∧w'=w.setCell ⟨b,0,none⟩ (.pointer (some ⟨b,0,none⟩)):=by
 obtain⟨j,hj,hjs⟩:=Option.map_eq_some_iff.1 (show(Tryz.prog.info? 127).map (fun i=>i.size)=some 2 by kernel_rfl)
 have hu1:(convert 125 213 (.pointer (some ⟨b,0,none⟩))).run Tryz.prog w=.ok (.pointer (some ⟨b,0,none⟩)) w :=
  Lib.run_to_unsafe w ⟨b,0,none⟩ (show Tryz.prog.underlying 125=some (.pointer 127) by kernel_rfl) (show Tryz.prog.underlying 213=some .unsafePointer by kernel_rfl) hj (by rw[hjs];decide) hsh (Nat.zero_lt_succ 1)
 go_enter Tryz.func108,Tryz.ntmps108
 go_wp2
 rw[run_callFunc_extern Tryz.func132 (by kernel_rfl) (by kernel_rfl) (by kernel_rfl) (e:=Extern.AbiNoEscape.same) (by kernel_rfl)]
 rw[Lib.run_noEscape]
 simp only[Result.andThen]
 rw[Oper.upon_value]
 go_wp2
 rw[Lib.run_from_unsafe w ⟨b,0,none⟩ (show Tryz.prog.underlying 213=some .unsafePointer by kernel_rfl) (show Tryz.prog.underlying 125=some (.pointer 127) by kernel_rfl) hj hsh (by kernel_rfl)]
 simp only[Result.andThen]
 rw[Oper.upon_value]
 go_wp2
 go_end0
 exact⟨rfl,rfl⟩
theorem setCell_heap {w:World} {b:Nat} {c:Array Value} {T:TypeId} (h:w.heap[b]?=some (.cells c T (0,0))) (o:Nat) (v:Value):(w.setCell ⟨b,o,none⟩ v).heap[b]?=some (.cells (c.setIfInBounds o v) T (0,0)):=by
 simp[World.setCell,Array.getElem?_modify,h]
theorem setCell_other (w:World) {b x:Nat} (hx:x≠b) (o:Nat) (v:Value):(w.setCell ⟨b,o,none⟩ v).heap[x]?=w.heap[x]?:=by
 simp[World.setCell,Array.getElem?_modify,Ne.symm hx]
theorem setCell_size (w:World) (a:Addr) (v:Value):(w.setCell a v).heap.size=w.heap.size:=by
 simp[World.setCell]
theorem copy_any (b:Nat) (p v:Value) (w:World) (hb:w.heap[b]?=some (.cells #[p,v] 127 (0,0))) (hp:p=.pointer none∨p=.pointer (some ⟨b,0,none⟩)) :
  Calls Tryz.prog 108 #[.pointer (some ⟨b,0,none⟩)] w fun e w'=>e=.returned (.tuple #[])∧w'.heap[b]?=some (.cells #[.pointer (some ⟨b,0,none⟩),v] 127 (0,0)) ∧
   (∀x,x≠b→w'.heap[x]?=w.heap[x]?)∧w'.heap.size=w.heap.size∧w'.os=w.os∧w'.tape=w.tape∧w'.output=w.output:=by
 rcases hp with rfl |rfl
 ·refine(copy_fresh b w (by simp[World.cell?,hb]) (by simp[World.shape?,hb]) (by simp[World.frozen?,hb])).mono ?_
  rintro e w' ⟨rfl,rfl⟩
  refine⟨rfl,?_,fun x hx=>setCell_other w hx _ _,setCell_size _ _ _,rfl,rfl,rfl⟩
  rw[setCell_heap hb]
  rfl
 ·refine(copy_used b w (by simp[World.cell?,hb])).mono ?_
  rintro e w' ⟨rfl,rfl⟩
  exact⟨rfl,hb,fun _ _=>rfl,rfl,rfl,rfl,rfl⟩
set_option maxRecDepth 100000 in
set_option maxHeartbeats 4000000 in
theorem write_run (b:Nat) (p v:Value) (xs:List Value) (s:ByteArray) (w:World) (hb:w.heap[b]?=some (.cells #[p,v] 127 (0,0))) (hp:p=.pointer none∨p=.pointer (some ⟨b,0,none⟩))
  (hown:w.ownsRow 0 5 1 v xs.length xs) (hne:v.ownBlock≠some b) (hlen:xs.length+s.size≤140737488355328) :
  Calls Tryz.prog 70 #[.pointer (some ⟨b,0,none⟩),.string s] w fun e w'=>(∃r,e=.returned r)∧∃(v':Value) (w1 w2:World),w'.heap[b]?=some (.cells #[.pointer (some ⟨b,0,none⟩),v'] 127 (0,0)) ∧
   w2.ownsRow 0 5 1 v' (xs.length+s.size) (xs++Lib.strCells s)∧(∀x,x≠b→w'.heap[x]?=w2.heap[x]?)∧w'.heap.size=w2.heap.size∧w'.os=w2.os∧w'.tape=w2.tape∧w'.output=w2.output ∧
   w1.grownBy w2 v.ownBlock∧(∀x,x≠b→w1.heap[x]?=w.heap[x]?)∧w1.heap.size=w.heap.size∧w1.os=w.os∧w1.tape=w.tape∧w1.output=w.output∧(v'.ownBlock=v.ownBlock∨∀k,v'.ownBlock=some k→w.heap.size≤k):=by
 obtain⟨i0,hi,hz0,hz1,hz2⟩:=info_parts (show(Tryz.prog.info? 5).map (fun i=>(i.zero,i.size,i.bytes))=some (some (.int .u8 0),1,1) by kernel_rfl)
 go_enter Tryz.func70,Tryz.ntmps70
 go_wp2_with (go_at_call 108;refine(copy_any b p v _ hb hp).mono ?_)
 rintro e w1 ⟨rfl,hbk,hoth,hsz,hos,htp,hout⟩
 have hown1:w1.ownsRow 0 5 1 v xs.length xs:=by
  refine⟨hown.1,?_⟩
  rcases hown.2 with h |⟨g,cap,cur,hv,hg,hc,r⟩
  ·exact .inl h
  ·exact .inr ⟨g,cap,cur,hv,hg,(hoth g (fun e=>hne (by rw[hv,e];rfl))).trans hc,r⟩
 have hlt:b<w1.heap.size:=by
  rcases Nat.lt_or_ge b w1.heap.size with h' |h'
  ·exact h'
  ·simp[Array.getElem?_eq_none h'] at hbk
 have c0:w1.cell? ⟨b,0,none⟩=some (.pointer (some ⟨b,0,none⟩)):=by rw[Lib.cell_of_heap hbk];rfl
 have c1:w1.cell? ⟨b,1,none⟩=some v:=by rw[Lib.cell_of_heap hbk];rfl
 go_wp2_with (at_builtin;refine wpList_app_new rfl _ _ 112 9 rfl 5 i0 (show Tryz.prog.underlying 112=some (.slice 5) by kernel_rfl) (show Tryz.prog.underlying 9=some .string by kernel_rfl) hi hz0 hz1 hz2 _ _ _ rfl hown1 s rfl hlen ?_)
 intro v' w2 hown' hgrow hnew
 have hb2:w2.heap[b]?=some (.cells #[.pointer (some ⟨b,0,none⟩),v] 127 (0,0)):=by
  rw[hgrow.block b hlt (fun e=>hne e.symm)]
  exact hbk
 have d0:w2.cell? ⟨b,0,none⟩=some (.pointer (some ⟨b,0,none⟩)):=by rw[Lib.cell_of_heap hb2];rfl
 have d1:w2.cell? ⟨b,1,none⟩=some v:=by rw[Lib.cell_of_heap hb2];rfl
 have f1:w2.frozen? ⟨b,1,none⟩=false:=Lib.frozen_of_heap hb2 1
 obtain⟨ao,n',cap,rfl⟩:∃ao n' cap,v'=.slice ao n' cap:=by
  rcases hown'.2 with⟨hv,_⟩ |⟨g,cap,cur,hv,_⟩
  ·exact⟨_,_,_,hv⟩
  ·exact⟨_,_,_,hv⟩
 go_wp2
 go_ret2
 refine⟨⟨_,rfl⟩,.slice ao n' cap,w1,w2,?_,hown',fun x hx=>setCell_other w2 hx _ _,setCell_size _ _ _,rfl,rfl,rfl,hgrow,hoth,hsz,hos,htp,hout,hnew⟩
 rw[setCell_heap hb2]
 rfl
theorem grown_drew (w:World) (row:Option Nat):w.grownBy w.drew row:=⟨rfl,rfl,rfl,Nat.le_refl _,fun _ _ _=>rfl⟩
theorem grown_freeze {w a:World} {g:Nat} (h:a.grownBy w (some g)) (n:Nat):a.grownBy (w.freeze ⟨g,0,none⟩ n) (some g):=by
 unfold World.freeze
 split
 ·exact h
 ·refine⟨h.os,h.tape,h.output,by simpa using h.size,fun k hk hne=>?_⟩
  simp only[Array.getElem?_modify]
  rw[if_neg (fun e=>hne (by rw[←e]))]
  exact h.block k hk hne
set_option maxRecDepth 100000 in
set_option maxHeartbeats 4000000 in
theorem string_run (b:Nat) (p v:Value) (l:List UInt8) (w:World) (hb:w.heap[b]?=some (.cells #[p,v] 127 (0,0)))
  (hown:w.ownsRow 0 5 1 v l.length (l.map fun x=>Value.int .u8 x.toNat)) :
  Calls Tryz.prog 71 #[.pointer (some ⟨b,0,none⟩)] w fun e w'=>e=.returned (.string ⟨l.toArray⟩)∧w.grownBy w' v.ownBlock:=by
 have hUS0:∀(W:World) q,(Builtin.unsafeString_ #[176,3] 9 #[.pointer q,.int .i64 0]).run Tryz.prog W=.ok (.string .empty) W:=fun W q=>Lib.run_unsafeString_none W _ _ _ q
 have c1:w.drew.cell? ⟨b,1,none⟩=some v:=by
  have:w.drew.heap[b]?=some (.cells #[p,v] 127 (0,0)):=hb
  rw[Lib.cell_of_heap this];rfl
 rcases hown.2 with⟨rfl,hz⟩ |⟨g,cap,cur,rfl,hbg,hg,hnc,hcm,hcs,htake⟩
 ·have:l=[]:=List.eq_nil_of_length_eq_zero hz
  subst this
  have hSD:(Builtin.unsafeSliceData_ #[112] 176 #[.slice none 0 0]).run Tryz.prog w.drew=.ok (.pointer none) w.drew:=rfl
  go_enter Tryz.func71,Tryz.ntmps71
  go_wp2
  go_region
  all_goals (go_wp2;go_ret;exact⟨rfl,grown_drew w _⟩)
 ·have hbw:w.drew.heap[b]?=some (.cells #[p,.slice (some ⟨g,0,none⟩) l.length cap] 127 (0,0)):=hb
  by_cases h0:l=[]
  ·subst h0
   by_cases hc:cap=0
   ·subst hc
    have hlt:b<w.heap.size:=by
     rcases Nat.lt_or_ge b w.heap.size with h' |h'
     ·exact h'
     ·simp[Array.getElem?_eq_none h'] at hb
    have hg':w.drew.heap[g]?=some (.cells cur 5 (0,0)):=hg
    have hSD:(Builtin.unsafeSliceData_ #[112] 176 #[.slice (some ⟨g,0,none⟩) 0 0]).run Tryz.prog w.drew=.ok (.pointer (some ⟨w.drew.heap.size,0,none⟩)) (w.drew.alloc (.view ⟨g,0,none⟩ 5)) :=
     Lib.run_unsafeSliceData_zero w.drew _ _ 5 (show Tryz.prog.underlying 176=some (.pointer 5) by kernel_rfl) ⟨g,0,none⟩ 0 (5,cur.size) (by simp[World.shape?,hg'])
    have c2:(w.drew.alloc (.view ⟨g,0,none⟩ 5)).cell? ⟨b,1,none⟩=some (.slice (some ⟨g,0,none⟩) 0 0):=by
     have:(w.drew.alloc (.view ⟨g,0,none⟩ 5)).heap[b]?=_:=(Lib.alloc_old w.drew _ b hlt).trans hbw
     rw[Lib.cell_of_heap this];rfl
    have c3:(w.alloc (.view ⟨g,0,none⟩ 5)).drew.cell? ⟨b,1,none⟩=some (.slice (some ⟨g,0,none⟩) 0 0):=c2
    have c0:w.cell? ⟨b,1,none⟩=some (.slice (some ⟨g,0,none⟩) 0 0):=c1
    go_enter Tryz.func71,Tryz.ntmps71
    go_wp2
    go_region
    all_goals (go_wp2;go_ret;exact⟨rfl,rfl,rfl,rfl,(World.grownBy_alloc w.drew _ none).size,fun k hk _=>(World.grownBy_alloc w.drew _ none).block k hk (by simp)⟩)
   ·have hSD:(Builtin.unsafeSliceData_ #[112] 176 #[.slice (some ⟨g,0,none⟩) 0 cap]).run Tryz.prog w.drew=.ok (.pointer (some ⟨g,0,none⟩)) w.drew :=
     Lib.run_unsafeSliceData_row _ _ _ _ _ _ hc
    clear hc
    go_enter Tryz.func71,Tryz.ntmps71
    go_wp2
    go_region
    all_goals (go_wp2;go_ret;exact⟨rfl,grown_drew w _⟩)
  ·have hl0:l.length≠0:=by simpa using h0
   have hSD:(Builtin.unsafeSliceData_ #[112] 176 #[.slice (some ⟨g,0,none⟩) l.length cap]).run Tryz.prog w.drew=.ok (.pointer (some ⟨g,0,none⟩)) w.drew :=
    Lib.run_unsafeSliceData_row _ _ _ _ _ _ (by omega)
   have hUS:(Builtin.unsafeString_ #[176,3] 9 #[.pointer (some ⟨g,0,none⟩),.int .i64 l.length]).run Tryz.prog w.drew=.ok (.string ⟨l.toArray⟩) (w.drew.freeze ⟨g,0,none⟩ l.length):=by
    refine Lib.run_unsafeString_row w.drew 176 3 9 5 (show Tryz.prog.underlying 176=some (.pointer 5) by kernel_rfl) (show Tryz.prog.cellsOf 5=1 by kernel_rfl) g cur.size (by have hg':w.drew.heap[g]?=some (.cells cur 5 (0,0)):=hg;simp[World.shape?,hg']) l h0 (by omega) (by unfold maxLen at hcm;omega) ?_
    intro j x hx
    have:=hown.cells (g:=g) rfl j (.int .u8 x.toNat) (by simp[hx])
    exact this
   clear hUS0
   go_enter Tryz.func71,Tryz.ntmps71
   go_wp2
   go_region
   all_goals (go_wp2;go_ret;exact⟨rfl,grown_freeze (grown_drew w _) _⟩)
theorem bld_box {w:World} {K:Kinds} {y:shBld.den} (hh:HeapOk w K (enum 0 (savs [shBld] y))) {b:Nat} (hb:b<w.heap.size) (hk:K b=.box 0) :
  ∃p v,w.heap[b]?=some (.cells #[p,v] 127 (0,0))∧(p=.pointer none∨p=.pointer (some ⟨b,0,none⟩))∧w.ownsRow 0 5 1 v (List.length y.2.1) (List.map (fun x:UInt8=>Value.int .u8 x.toNat) y.2.1) ∧
   (∀g,v.ownBlock=some g→K g=.row 0 0∧g<w.heap.size)∧∃A n c,v=.slice A n c:=by
 obtain⟨av,o,h1,h2,h3⟩:=hh.cells b 0 hb hk
 have e1:av=⟨shBld,y⟩:=by
  have:some (⟨shBld,y⟩:AV)=some av:=h1
  cases this
  rfl
 subst e1
 obtain⟨cs,rfl,c1,c2,hcs,⟨q,hq,hq'⟩,c3,c4,hc34,⟨A,n,cap,hA,hA'⟩,h5⟩:=h3
 have h5':c4=[]:=h5
 subst h5' hA hc34 hq
 have hcs':cs=#[.pointer q,.slice A n cap]:=by
  apply Array.ext'
  rw[hcs]
  rfl
 subst hcs'
 refine⟨_,_,h2,?_,?_,?_,_,_,_,rfl⟩
 ·rcases hq' with rfl |⟨b',rfl,hb1,hb2⟩
  ·exact .inl rfl
  ·rw[hh.uniq b' b 0 hb2 hb hb1 hk]
   exact .inr rfl
 ·rcases hA' with⟨rfl,rfl,rfl,hx⟩ |⟨g,cur,rfl,hg1,hg2,hg3,hg4,hg5,hg6,hg7⟩
  ·rw[hx]
   exact⟨rfl,.inl ⟨rfl,rfl⟩⟩
  ·subst hg3
   exact⟨by simp,.inr ⟨g,cap,cur,rfl,Nat.zero_le _,hg2,hg4,hg5,by rw[hg6,Nat.mul_one],by rw[Nat.mul_one];exact hg7⟩⟩
 ·intro g hg
  rcases hA' with⟨rfl,_⟩ |⟨g',cur,rfl,hg1,hg2,_⟩
  ·cases hg
  ·simp only[Value.ownBlock,Option.some.injEq] at hg
   subst hg
   exact⟨hg1,(Array.getElem?_eq_some_iff.1 hg2).1⟩
def newK (w:World) (K:Kinds) (v:Value):Kinds:=fun k=>if k<w.heap.size then K k else if v.ownBlock=some k then .row 0 0 else .old
theorem newK_old {w:World} {K:Kinds} {v:Value} {k:Nat} (h:k<w.heap.size):newK w K v k=K k:=if_pos h
theorem newK_box {w:World} {K:Kinds} {v:Value} {k id:Nat} (h:newK w K v k=.box id):k<w.heap.size∧K k=.box id:=by
 unfold newK at h
 split at h
 ·exact⟨by assumption,h⟩
 ·split at h<;>cases h
theorem bld_ext {w w':World} {K:Kinds} {b:Nat} {v u:Value} {cs cs':Array Value} {T:TypeId} (os:w'.os=w.os) (tape:w'.tape=w.tape) (output:w'.output=w.output) (size:w.heap.size≤w'.heap.size)
  (hkb:K b=.box 0) (hv:∀g,v.ownBlock=some g→K g=.row 0 0) (hb:w.heap[b]?=some (.cells cs T (0,0))) (hb':w'.heap[b]?=some (.cells cs' T (0,0))) (hsz:cs.size≤cs'.size)
  (hoth:∀k,k<w.heap.size→k≠b→some k≠v.ownBlock→w'.heap[k]?=w.heap[k]?):Ext w K w' (newK w K u) where
 os:=os
 tape:=tape
 output:=output
 size:=size
 fix:=fun k hk hf=>⟨newK_old hk,hoth k hk (fun e=>by rw[e,hkb] at hf;cases hf) (fun e=>by rw[hv k e.symm] at hf;cases hf)⟩
 stab:=fun k o hk hs=>by
  refine⟨by unfold Stab at *;rw[newK_old hk];exact hs,World.cell?_of_block (hoth k hk (fun e=>?_) (fun e=>?_))⟩
  ·unfold Stab at hs
   rw[e,hkb] at hs
   exact hs.elim
  ·unfold Stab at hs
   rw[hv k e.symm] at hs
   exact absurd hs (Nat.not_lt_zero _)
 box:=fun k id hk h=>by rw[newK_old hk];exact h
 bsz:=fun k id n hk h hn=>by
  by_cases e:k=b
  ·subst e
   obtain⟨c,T',h1,h2⟩:=hn
   rw[hb] at h1
   cases h1
   exact⟨_,_,hb',Nat.le_trans h2 hsz⟩
  ·obtain⟨c,T',h1,h2⟩:=hn
   exact⟨c,T',(hoth k hk e (fun e=>by rw[hv k e.symm] at h;cases h)).trans h1,h2⟩
theorem heap_one {w':World} {w:World} {K:Kinds} {s:Sh} {y:s.den} {s':Sh} {x':s'.den} {b:Nat} {u:Value} {o:Obj} (hh:HeapOk w K (enum 0 (savs [s] y))) (hb:b<w.heap.size) (hkb:K b=.box 0) (hb':w'.heap[b]?=some o) (ho:BoxOk w' (newK w K u) s' x' o) :
  HeapOk w' (newK w K u) (enum 0 (savs [s'] x')) where
 cells:=fun k id hk h=>by
  obtain⟨h1,h2⟩:=newK_box h
  obtain⟨av,o',l1,_⟩:=hh.cells k id h1 h2
  have hid:id<0+1:=look_enum_lt [⟨s,y⟩] 0 id av l1
  have:id=0:=by omega
  subst this
  have:=hh.uniq k b 0 h1 hb h2 hkb
  subst this
  exact⟨⟨s',x'⟩,o,rfl,hb',ho⟩
 uniq:=fun k k' id hk hk' h h'=>by
  obtain⟨h1,h2⟩:=newK_box h
  obtain⟨h3,h4⟩:=newK_box h'
  exact hh.uniq k k' id h1 h3 h2 h4
theorem write_body:BodyOk Tryz.prog 70 body_WriteString:=by
 intro args h0 nx Kc r hrun w K vs hvs hh Rf hk _
 simp only[body_WriteString,bodyT] at hrun
 split at hrun
 ·rename_i x y hx hy
  cases hG:qcH y.2.1 x.2 with
  |false=>rw[hG] at hrun;cases hrun
  |true =>
   rw[hG] at hrun
   simp only[cond_true] at hrun
   have hho:=hh.to hy
   have hrv:=toAll_RVs _ args x vs hx hvs
   match vs,hrv with
   |v1::v2::vr,hrv =>
   obtain⟨r1,r2,r3⟩:=hrv
   have hvr:vr=[]:=by
    cases vr with
    |nil=>rfl
    |cons _ _=>exact r3.elim
   subst hvr
   obtain⟨b,rfl,hkb,hb⟩:=RV.box r1
   have e2:=RV.str r2
   subst e2
   obtain⟨p,v,hbk,hp,hown,hrow,A,n,c,hvA⟩:=bld_box hho hb hkb
   have hne:v.ownBlock≠some b:=fun e=>by have:=(hrow b e).1;rw[hkb] at this;cases this
   have hlen:(List.map (fun x:UInt8=>Value.int .u8 x.toNat) y.2.1).length+(⟨⟨x.2⟩⟩:ByteArray).size≤140737488355328:=by
    have:=Nat.le_of_ble_eq_true (show Nat.ble (List.length y.2.1+List.length x.2) 140737488355328=true from hG)
    simpa [ByteArray.size] using this
   refine(write_run b p v (List.map (fun x:UInt8=>Value.int .u8 x.toNat) y.2.1) ⟨⟨x.2⟩⟩ w hbk hp (by rw[List.length_map];exact hown) hne hlen).mono ?_
   rintro e w' ⟨⟨rr,rfl⟩,v',w1,w2,hb',hown',hoth2,hsz2,hos2,htp2,hout2,hgrow,hoth1,hsz1,hos1,htp1,hout1,hnew⟩
   have hrow':∀g,v'.ownBlock=some g→newK w K v' g=.row 0 0∧g≠b:=fun g hg=>by
    rcases hnew with e |e
    ·obtain⟨h1,h2⟩:=hrow g (by rw[←e];exact hg)
     exact⟨(newK_old h2).trans h1,fun e=>by rw[e,hkb] at h1;cases h1⟩
    ·have:=e g hg
     refine⟨?_,by omega⟩
     unfold newK
     rw[if_neg (by omega),if_pos hg]
   refine hk ⟨.top,()⟩ rr _ _ w' (newK w K v') (bld_ext (by rw[hos2,hgrow.os,hos1]) (by rw[htp2,hgrow.tape,htp1]) (by rw[hout2,hgrow.output,hout1]) (by rw[hsz2,←hsz1];exact hgrow.size) hkb (fun g hg=>(hrow g hg).1) hbk hb' (Nat.le_refl _) (fun k hk hkb hkv=>?_)) trivial
    (heap_one hho hb hkb hb' ?_) hrun
   ·rw[hoth2 k hkb,hgrow.block k (by rw[hsz1];exact hk) hkv,hoth1 k hkb]
   ·refine⟨_,rfl,[_],[_],rfl,⟨_,rfl,.inr ⟨b,rfl,(newK_old hb).trans hkb,by rw[hsz2];exact Nat.lt_of_lt_of_le (by rw[hsz1];exact hb) hgrow.size⟩⟩,[_],[],rfl,?_,rfl⟩
    have hm:List.map (fun x:UInt8=>Value.int .u8 x.toNat) y.2.1++Lib.strCells ⟨⟨x.2⟩⟩=List.map (fun x:UInt8=>Value.int .u8 x.toNat) (y.2.1++x.2):=by
     simp[Lib.strCells]
    rw[hm,List.length_map] at hown'
    have hl:List.length y.2.1+(⟨⟨x.2⟩⟩:ByteArray).size=List.length (y.2.1++x.2):=by simp[ByteArray.size]
    rw[hl] at hown'
    rcases hown'.2 with⟨rfl,hz⟩ |⟨g,cap,cur,rfl,_,hg,hnc,hcm,hcs,htake⟩
    ·exact⟨_,_,_,rfl,.inl ⟨rfl,rfl,rfl,List.eq_nil_of_length_eq_zero hz⟩⟩
    ·obtain⟨q1,q2⟩:=hrow' g rfl
     exact⟨_,_,_,rfl,.inr ⟨g,cur,rfl,q1,(hoth2 g q2).trans hg,rfl,hnc,hcm,by simpa using hcs,by simpa [qd0] using htake⟩⟩
 ·cases hrun
theorem string_body:BodyOk Tryz.prog 71 body_String:=by
 intro args h0 nx Kc r hrun w K vs hvs hh Rf hk _
 simp only[body_String,bodyT] at hrun
 split at hrun
 ·rename_i x y hx hy
  simp only[cond_true] at hrun
  have hho:=hh.to hy
  have hrv:=toAll_RVs _ args x vs hx hvs
  match vs,hrv with
  |v1::vr,hrv =>
  obtain⟨r1,r3⟩:=hrv
  have hvr:vr=[]:=by
   cases vr with
   |nil=>rfl
   |cons _ _=>exact r3.elim
  subst hvr
  obtain⟨b,rfl,hkb,hb⟩:=RV.box r1
  obtain⟨p,v,hbk,hp,hown,hrow,A,n,c,hvA⟩:=bld_box hho hb hkb
  have hne:some b≠v.ownBlock:=fun e=>by have:=(hrow b e.symm).1;rw[hkb] at this;cases this
  refine(string_run b p v y.2.1 w hbk hown).mono ?_
  rintro e w' ⟨rfl,hgrow⟩
  have hb':w'.heap[b]?=_:=(hgrow.block b hb hne).trans hbk
  refine hk ⟨.ty .str,y.2.1⟩ _ _ _ w' (newK w K (.bool true)) (bld_ext hgrow.os hgrow.tape hgrow.output hgrow.size hkb (fun g hg=>(hrow g hg).1) hbk hb' (Nat.le_refl _) (fun k hk _ hkv=>hgrow.block k hk hkv)) ⟨rfl,⟨(fun h=>by cases h),(fun _ c h=>by cases h)⟩⟩
   (heap_one hho hb hkb hb' ?_) hrun
  subst hvA
  rcases hp with rfl |rfl
  ·exact⟨_,rfl,[_],[_],rfl,⟨_,rfl,.inl rfl⟩,[_],[],rfl,⟨_,rfl,rfl⟩,rfl⟩
  ·exact⟨_,rfl,[_],[_],rfl,⟨_,rfl,.inr ⟨b,rfl,(newK_old hb).trans hkb,Nat.lt_of_lt_of_le hb hgrow.size⟩⟩,[_],[],rfl,⟨_,rfl,rfl⟩,rfl⟩
 ·cases hrun
end Go.Proofs.YtealbjacocgjcaaGreat
end
section
namespace Go.Proofs.YtealbjacocgjcaaGreat
open Go Go.RowKit Go.Av Go.Proofs
set_option maxRecDepth 100000 in
set_option maxHeartbeats 4000000 in
theorem offset_run (b mb g g2 n cap n2 cap2 o o2:Nat) (i j lab x y:Int) (w:World)
  (c0:w.cell? ⟨b,0,none⟩=some (.slice (some ⟨g,o,none⟩) n cap)) (c2:w.cell? ⟨b,2,none⟩=some (.map (some mb)))
  (ci:w.cell? ⟨g,o+i.toNat*10+1,none⟩=some (.int .i64 lab)) (hi:0≤i∧i<(n:Int))
  (hl:∀m:Nat,(Instr.lookup 118 (.map (some mb)) (.int .i64 lab) false).run Tryz.prog (w.drewN m)=.ok (.int .i64 j) (w.drewN m))
  (hj:0≤j∧j<(n2:Int)) (hi2:0≤i∧i<(n2:Int)) (cj:w.cell? ⟨g2,o2+j.toNat,none⟩=some (.int .i64 x)) (ck:w.cell? ⟨g2,o2+i.toNat,none⟩=some (.int .i64 y)) :
  Calls Tryz.prog 68 #[.pointer (some ⟨b,0,none⟩),.slice (some ⟨g2,o2,none⟩) n2 cap2,.int .i64 i] w fun e w'=>e=.returned (.int .i64 (wrap64 (wrap64 (x-y)-4)))∧∃m,w'=w.drewN m:=by
 go_enter Tryz.func68,Tryz.ntmps68
 go_wp2
 go_quiet (fail)
 go_wp2
 go_ret
 exact⟨rfl,_,rfl⟩
theorem drew_ext (w:World) (K:Kinds) (m:Nat):Ext w K (w.drewN m) K :=
 ⟨rfl,rfl,rfl,Nat.le_refl _,fun _ _ _=>⟨rfl,rfl⟩,fun _ _ _ h=>⟨h,rfl⟩,fun _ _ _ h=>h,fun _ _ _ _ _ h=>h⟩
theorem label_at {w:World} {K:Kinds}:∀(it:List tItem.den) (cc:List Value) (i:Nat),RL (RT w K tItem) it cc→i<it.length→cc[i*10+1]?=some (.int .i64 (it.getD i (Ty.dflt tItem)).2.1)
 |[],_,_,_,h=>absurd h (Nat.not_lt_zero _)
 |x::it,_,0,⟨_,_,rfl,h1,_⟩,_=>by
  obtain⟨d1,d2,rfl,e1,e2⟩:=h1
  obtain⟨d3,d4,rfl,e3,_⟩:=e2
  have e1':d1=[.int .i64 x.1]:=e1
  have e3':d3=[.int .i64 x.2.1]:=e3
  subst e1' e3'
  rfl
 |x::it,_,i+1,⟨c1,c2,rfl,h1,h2⟩,h=>by
  have hl:c1.length=10:=RT.length tItem x c1 h1
  have:=label_at it c2 i h2 (by simpa using h)
  rw[show(i+1)*10+1=10+(i*10+1) by omega,List.getElem?_append_right (by omega),hl,show 10+(i*10+1)-10=i*10+1 by omega,this]
  rfl
theorem int_at {w:World} {K:Kinds}:∀(l:List Int) (cc:List Value) (i:Nat),RL (RT w K (.int .i64)) l cc→i<l.length→cc[i]?=some (.int .i64 (l.getD i 0))
 |[],_,_,_,h=>absurd h (Nat.not_lt_zero _)
 |x::l,_,0,⟨_,_,rfl,h1,_⟩,_=>by
  rw[show _=[Value.int .i64 x] from h1]
  rfl
 |x::l,_,i+1,⟨c1,c2,rfl,h1,h2⟩,h=>by
  have e:c1=[Value.int .i64 x]:=h1
  subst e
  exact int_at l c2 i h2 (by simpa using h)
theorem inRange_facts {i:Int} {n:Nat} (h:inRange i n=true):0≤i∧i<(n:Int):=by
 unfold inRange at h
 simpa using h
theorem offset_plain:PlainOk Tryz.prog 68 snap_asm_assembler_offset:=by
 intro args v h w K vs hvs _
 unfold snap_asm_assembler_offset at h
 split at h
 ·match vs,hvs with
  |u::vs,hvs =>
   obtain⟨ts,_,ht⟩:=hvs.1
   exact ht.elim
 ·cases h
theorem offset_snap:SnapOk Tryz.prog 68 snap_asm_assembler_offset:=by
 intro sl en rest v h w K p vs hat hvs hfix
 unfold snap_asm_assembler_offset at h
 split at h
 ·rename_i l a0 e it en' at_ i heq
  simp only[List.cons.injEq] at heq
  obtain⟨_,rfl,rfl,rfl⟩:=heq
  split at h
  ·rename_i he _
   subst he
   simp only[Option.some.injEq,Prod.mk.injEq] at h
   obtain⟨hg,rfl⟩:=h
   obtain⟨b,cs,T,c0,c1,mb,cr,ob,rfl,hb,hcs,h0,hm,hmo⟩:=hat
   match vs,hvs with
   |va::vi::vr,hvs =>
   obtain⟨hva,hvi,hvr⟩:=hvs
   have hvr':vr=[]:=by
    cases vr with
    |nil=>rfl
    |cons _ _=>exact hvr.elim
   subst hvr'
   have evi:vi=.int .i64 i:=RV.int hvi
   subst evi
   obtain⟨A2,len2,cap2,rfl,A3,len3,cap3,e3,x1,x2,x3,x4⟩:=RV.sl hva
   simp only[List.cons.injEq,and_true,Value.slice.injEq] at e3
   obtain⟨rfl,rfl,rfl⟩:=e3
   obtain⟨A,len,cap,hc0,y1,y2,y3,y4⟩:=h0
   simp only[List.cons.injEq,and_true] at hc0
   subst hc0
   obtain⟨es,mc,rfl,hmis⟩:=hmo
   unfold qcp at hg
   simp only[Bool.and_eq_true] at hg
   obtain⟨g1,g2,g3⟩:=hg
   have i1:=inRange_facts g1
   have i2:=inRange_facts g2
   have i3:=inRange_facts g3
   have hlen:0<len:=by
    have:(0:Int)<(List.length it:Int):=by omega
    have e1:len=List.length it:=y1
    omega
   have hlen2:0<len2:=by
    have:(0:Int)<(List.length at_:Int):=by omega
    have e1:len2=List.length at_:=x1
    omega
   obtain⟨a,rfl⟩:∃a,A=some a:=by
    cases A with
    |none=>have:=y3 rfl;omega
    |some a=>exact⟨a,rfl⟩
   obtain⟨a2,rfl⟩:∃a,A2=some a:=by
    cases A2 with
    |none=>have:=x3 rfl;omega
    |some a=>exact⟨a,rfl⟩
   obtain⟨cc,q1,q2⟩:=y4 a rfl
   obtain⟨cc2,p1,p2⟩:=x4 a2 rfl
   have t1:=label_at it cc i.toNat q1 (by omega)
   have t2:=int_at at_ cc2 (mval en' (it.getD i.toNat (Ty.dflt tItem)).2.1).toNat p1 (by omega)
   have t3:=int_at at_ cc2 i.toNat p1 (by omega)
   obtain⟨s1,s2,_⟩:=q2 _ _ t1
   obtain⟨s3,s4,_⟩:=p2 _ _ t2
   obtain⟨_,s5,_⟩:=p2 _ _ t3
   obtain⟨ab,ao,asp⟩:=a
   obtain⟨ab2,ao2,asp2⟩:=a2
   have s1':asp=none:=s1
   have s3':asp2=none:=s3
   subst s1' s3'
   have hcell:∀k,w.cell? ⟨b,k,none⟩=cs[k]?:=fun k=>by
    simp[World.cell?,hb]
   have hk:∀k:Nat,cs[k]?=cs.toList[k]?:=fun k=>by simp
   have hml:∀m:Nat,(Instr.lookup 118 (.map (some mb)) (.int .i64 (it.getD i.toNat (Ty.dflt tItem)).2.1) false).run Tryz.prog (w.drewN m)=.ok (.int .i64 (mval en' (it.getD i.toNat (Ty.dflt tItem)).2.1)) (w.drewN m):=fun m =>
    run_lookup (w:=w.drewN m) (t:=118) (by kernel_rfl) hm hmis _ false
   refine(offset_run b mb ab ab2 len cap len2 cap2 ao ao2 i _ _ _ _ w (by rw[hcell,hk,hcs];rfl) (by rw[hcell,hk,hcs];rfl) s2 ⟨i1.1,by rw[y1];exact i1.2⟩ hml ⟨i2.1,by rw[x1];exact i2.2⟩ ⟨i3.1,by rw[x1];exact i3.2⟩ s4 s5).mono ?_
   rintro e w' ⟨rfl,m,rfl⟩
   refine⟨_,K,rfl,drew_ext w K m,fun b' id hb' hk'=>?_,RV.scalar (av:=.int .i64 _) ?_ rfl rfl⟩
   rotate_left
   ·show[Value.int .i64 _]=[Value.int .i64 _]
    unfold qI
    simp only[IntKind.wrap_i64,wrap64]
   have:=hfix b' hb'
   rw[hk'] at this
   cases this
  ·cases h
 ·cases h
end Go.Proofs.YtealbjacocgjcaaGreat
end
section
namespace Go.Proofs.YtealbjacocgjcaaGreat
open Go Go.Av Go.Proofs
noncomputable def cRE30:Ctx:=baseC Tryz.prog [31,33,57,23,95,50,193,90,81,44,41,184]
theorem cRE30_good:Av.Good cRE30:=good_base (by kernel_rfl) (by kernel_rfl) (by kernel_rfl)
noncomputable def cRE31:Ctx:=cRE30.addPlain 127 (plainT qfi qjc qgQ qV)
theorem cRE31_good:Av.Good cRE31:=cRE30_good.fnP qgQ qbD qjc qV 2 8 (by kernel_rfl) (fun x=>by kernel_rfl) qmq
noncomputable def cRE32:Ctx:=cRE31.addPlain 128 (plainT qfM qjF qhF qbf)
theorem cRE32_good:Av.Good cRE32:=cRE31_good.fnP qhF qcG qjF qbf 2 8 (by kernel_rfl) (fun x=>by kernel_rfl) qmA
noncomputable def cRE33:Ctx:=cRE32.addPlain 126 (plainT qft qjb qgU qE)
theorem cRE33_good:Av.Good cRE33:=cRE32_good.fnP qgU q8 qjb qE 2 8 (by kernel_rfl) (fun x=>by kernel_rfl) ql4
noncomputable def cRE34:Ctx:=cRE33.addPlain 102 (plainT qf8 qjK qhO qQ)
theorem cRE34_good:Av.Good cRE34:=cRE33_good.fnP qhO qc8 qjK qQ 3 8 (by kernel_rfl) (fun x=>by kernel_rfl) qmu
noncomputable def cRE35:Ctx:=cRE34.addPlain 125 (plainT qfu qi4 qgR qcO)
theorem cRE35_good:Av.Good cRE35:=cRE34_good.fnP qgR qcP qi4 qcO 3 8 (by kernel_rfl) (fun x=>by kernel_rfl) qmp
noncomputable def cRE36:Ctx:=cRE35.addPlain 105 (plainT qf4 qjE qhG qd)
theorem cRE36_good:Av.Good cRE36:=cRE35_good.fnP qhG qX qjE qd 3 8 (by kernel_rfl) (fun x=>by kernel_rfl) qmJ
noncomputable def cRE37:Ctx:=cRE36.addPlain 143 (plainT qhl qz qjn qe)
theorem cRE37_good:Av.Good cRE37:=cRE36_good.fnP qjn qdZ qz qe 2 6 (by kernel_rfl) (fun x=>by kernel_rfl) qne
noncomputable def cRE38:Ctx:=cRE37.addPlain 130 (plainT qeN qbi qgf q7)
theorem cRE38_good:Av.Good cRE38:=cRE37_good.fnP qgf qk qbi q7 4 8 (by kernel_rfl) (fun x=>by kernel_rfl) qlV
noncomputable def cRE39:Ctx:=cRE38.addPlain 129 (plainT qgq qgr qh7 qgD)
theorem cRE39_good:Av.Good cRE39:=cRE38_good.fnP qh7 qb3 qgr qgD 4 8 (by kernel_rfl) (fun x=>by kernel_rfl) qm2
noncomputable def cRE310:Ctx:=cRE39.addPlain 144 (plainT qf1 qc7 qhB qc6)
theorem cRE310_good:Av.Good cRE310:=cRE39_good.fnP qhB qL qc7 qc6 4 8 (by kernel_rfl) (fun x=>by kernel_rfl) qmH
noncomputable def cRE311:Ctx:=cRE310.addPlain 145 (plainT qgL qic qii qim)
theorem cRE311_good:Av.Good cRE311:=cRE310_good.fnP qii qbC qic qim 4 8 (by kernel_rfl) (fun x=>by kernel_rfl) qmW
noncomputable def cRE312:Ctx:=cRE311.addPlain 131 (plainT qfs qg0 qgV qg4)
theorem cRE312_good:Av.Good cRE312:=cRE311_good.fnP qgV qt qg0 qg4 4 8 (by kernel_rfl) (fun x=>by kernel_rfl) qmo
noncomputable def cRE313:Ctx:=cRE312.addPlain 106 (plainT qgI qcu qih qT)
theorem cRE313_good:Av.Good cRE313:=cRE312_good.fnP qih qr qcu qT 4 8 (by kernel_rfl) (fun x=>by kernel_rfl) qmX
noncomputable def cRE314:Ctx:=cRE313.addPlain 103 (plainT qgp qki qij qba)
theorem cRE314_good:Av.Good cRE314:=cRE313_good.fnP qij qkv qki qba 4 8 (by kernel_rfl) (fun x=>by kernel_rfl) qmS
noncomputable def cRE315:Ctx:=cRE314.addPlain 110 (plainT qhm qkX qjh qx)
theorem cRE315_good:Av.Good cRE315:=cRE314_good.fnP qjh qlH qkX qx 2 8 (by kernel_rfl) (fun x=>by kernel_rfl) qm5
noncomputable def cRE316:Ctx:=cRE315.addPlain 135 (plainT qhk qkI qjl qbm)
theorem cRE316_good:Av.Good cRE316:=cRE315_good.fnP qjl qlP qkI qbm 2 8 (by kernel_rfl) (fun x=>by kernel_rfl) qng
noncomputable def cRE317:Ctx:=cRE316.addPlain 115 (plainT qiG qlj qjW qdj)
theorem cRE317_good:Av.Good cRE317:=cRE316_good.fnP qjW qme qlj qdj 2 8 (by kernel_rfl) (fun x=>by kernel_rfl) qnh
noncomputable def cRE318:Ctx:=cRE317.addPlain 171 (plainT qiT qlq qkf qdR)
theorem cRE318_good:Av.Good cRE318:=cRE317_good.fnP qkf ql3 qlq qdR 2 8 (by kernel_rfl) (fun x=>by kernel_rfl) qnu
noncomputable def cRE319:Ctx:=cRE318.addPlain 172 (plainT qfn qje qgX qcL)
theorem cRE319_good:Av.Good cRE319:=cRE318_good.fnP qgX qkY qje qcL 2 8 (by kernel_rfl) (fun x=>by kernel_rfl) qmj
noncomputable def cRE320:Ctx:=cRE319.addPlain 154 (plainT qh8 qlr qj8 qeJ)
theorem cRE320_good:Av.Good cRE320:=cRE319_good.fnP qj8 qmk qlr qeJ 2 8 (by kernel_rfl) (fun x=>by kernel_rfl) qnz
noncomputable def cRE321:Ctx:=cRE320.addPlain 155 (plainT qhj qkH qjo qga)
theorem cRE321_good:Av.Good cRE321:=cRE320_good.fnP qjo qlJ qkH qga 2 8 (by kernel_rfl) (fun x=>by kernel_rfl) qm7
noncomputable def cRE322:Ctx:=cRE321.addPlain 77 (plainT qiz qls qj3 qby)
theorem cRE322_good:Av.Good cRE322:=cRE321_good.fnP qj3 ql7 qls qby 2 8 (by kernel_rfl) (fun x=>by kernel_rfl) qno
noncomputable def cRE323:Ctx:=cRE322.addPlain 169 (plainT qh4 qld qkc qeR)
theorem cRE323_good:Av.Good cRE323:=cRE322_good.fnP qkc qmd qld qeR 2 8 (by kernel_rfl) (fun x=>by kernel_rfl) qnr
noncomputable def cRE324:Ctx:=cRE323.addPlain 170 (plainT qjv qlv qkA qeI)
theorem cRE324_good:Av.Good cRE324:=cRE323_good.fnP qkA qmM qlv qeI 2 8 (by kernel_rfl) (fun x=>by kernel_rfl) qnE
noncomputable def cRE325:Ctx:=cRE324.addPlain 134 (plainT qiH qlg qkd qdo)
theorem cRE325_good:Av.Good cRE325:=cRE324_good.fnP qkd ql5 qlg qdo 2 8 (by kernel_rfl) (fun x=>by kernel_rfl) qnl
noncomputable def cRE326:Ctx:=cRE325.addPlain 165 (plainT qix qli qj4 qg5)
theorem cRE326_good:Av.Good cRE326:=cRE325_good.fnP qj4 qma qli qg5 2 8 (by kernel_rfl) (fun x=>by kernel_rfl) qnx
noncomputable def cRE327:Ctx:=cRE326.addPlain 166 (plainT qis qh5 qj2 qeG)
theorem cRE327_good:Av.Good cRE327:=cRE326_good.fnP qj2 qml qh5 qeG 2 8 (by kernel_rfl) (fun x=>by kernel_rfl) qnw
noncomputable def cRE328:Ctx:=cRE327.addPlain 167 (plainT qiR qlc qj0 qir)
theorem cRE328_good:Av.Good cRE328:=cRE327_good.fnP qj0 qmb qlc qir 2 8 (by kernel_rfl) (fun x=>by kernel_rfl) qny
noncomputable def cRE329:Ctx:=cRE328.addPlain 168 (plainT qif qla qjY qit)
theorem cRE329_good:Av.Good cRE329:=cRE328_good.fnP qjY qmm qla qit 2 8 (by kernel_rfl) (fun x=>by kernel_rfl) qns
noncomputable def cRE330:Ctx:=cRE329.addPlain 164 (plainT qfW qjS qhv qf0)
theorem cRE330_good:Av.Good cRE330:=cRE329_good.fnP qhv qlt qjS qf0 2 8 (by kernel_rfl) (fun x=>by kernel_rfl) qmG
noncomputable def cRE331:Ctx:=cRE330.addPlain 173 (plainT qiW qk9 qj9 qg3)
theorem cRE331_good:Av.Good cRE331:=cRE330_good.fnP qj9 qmn qk9 qg3 2 8 (by kernel_rfl) (fun x=>by kernel_rfl) qni
noncomputable def cRE332:Ctx:=cRE331.addPlain 150 (plainT qhp qkE qjf qd2)
theorem cRE332_good:Av.Good cRE332:=cRE331_good.fnP qjf qjg qkE qd2 2 8 (by kernel_rfl) (fun x=>by kernel_rfl) qna
noncomputable def cRE333:Ctx:=cRE332.addPlain 139 (plainT qip qlb qke qb9)
theorem cRE333_good:Av.Good cRE333:=cRE332_good.fnP qke qgS qlb qb9 2 8 (by kernel_rfl) (fun x=>by kernel_rfl) qnm
noncomputable def cRE334:Ctx:=cRE333.addLoop 137 2 qey.toT.toLoop
theorem cRE334_good:Av.Good cRE334:=cRE333_good.loopN qey 2 8 (by kernel_rfl) (fun _ _=>rfl) (fun x y s m K=>by kernel_rfl) (fun x y s s' K e=>by kernel_rfl)
noncomputable def cRE335:Ctx:=cRE334.addPlain 137 (plainT qhg qd4 qjk qY)
theorem cRE335_good:Av.Good cRE335:=cRE334_good.fnP qjk qkS qd4 qY 2 8 (by kernel_rfl) (fun x=>by kernel_rfl) qm6
noncomputable def cRE336:Ctx:=cRE335.addPlain 151 (plainT qgy qcV qh3 qea)
theorem cRE336_good:Av.Good cRE336:=cRE335_good.fnP qh3 qks qcV qea 2 8 (by kernel_rfl) (fun x=>by kernel_rfl) qmV
noncomputable def cRE337:Ctx:=cRE336.addPlain 152 (plainT qfV qjT qhy qfR)
theorem cRE337_good:Av.Good cRE337:=cRE336_good.fnP qhy qfY qjT qfR 2 8 (by kernel_rfl) (fun x=>by kernel_rfl) qmB
noncomputable def cRE338:Ctx:=cRE337.addPlain 153 (plainT qjA qlD qkD qjx)
theorem cRE338_good:Av.Good cRE338:=cRE337_good.fnP qkD qjy qlD qjx 2 8 (by kernel_rfl) (fun x=>by kernel_rfl) qnC
noncomputable def cRE339:Ctx:=cRE338.addPlain 156 (plainT qfP qjP qhP qc9)
theorem cRE339_good:Av.Good cRE339:=cRE338_good.fnP qhP qhN qjP qc9 2 8 (by kernel_rfl) (fun x=>by kernel_rfl) qmw
noncomputable def cRE340:Ctx:=cRE339.addPlain 140 (plainT qhh qhe qjp qgb)
theorem cRE340_good:Av.Good cRE340:=cRE339_good.fnP qjp qf9 qhe qgb 2 8 (by kernel_rfl) (fun x=>by kernel_rfl) qnb
noncomputable def cRE341:Ctx:=cRE340.addPlain 116 (plainT qgv qcw qiJ qc)
theorem cRE341_good:Av.Good cRE341:=cRE340_good.fnP qiJ qgB qcw qc 2 8 (by kernel_rfl) (fun x=>by kernel_rfl) qmO
noncomputable def cRE342:Ctx:=cRE341.addPlain 119 (plainT qiS qcb qjZ qG)
theorem cRE342_good:Av.Good cRE342:=cRE341_good.fnP qjZ qj6 qcb qG 2 8 (by kernel_rfl) (fun x=>by kernel_rfl) qnp
noncomputable def cRE343:Ctx:=cRE342.addPlain 118 (plainT qgJ qbw qik qbl)
theorem cRE343_good:Av.Good cRE343:=cRE342_good.fnP qik qiF qbw qbl 2 8 (by kernel_rfl) (fun x=>by kernel_rfl) qmP
noncomputable def cRE344:Ctx:=cRE343.addPlain 53 (plainT qfa qi9 qg8 qJ)
theorem cRE344_good:Av.Good cRE344:=cRE343_good.fnP qg8 qd7 qi9 qJ 2 8 (by kernel_rfl) (fun x=>by kernel_rfl) qmi
noncomputable def cRE345:Ctx:=cRE344.addPlain 157 (plainT qgt qkq qin qee)
theorem cRE345_good:Av.Good cRE345:=cRE344_good.fnP qin qiN qkq qee 2 8 (by kernel_rfl) (fun x=>by kernel_rfl) qmQ
noncomputable def cRE346:Ctx:=cRE345.addLoop 141 6 qeB.toT.toLoop
theorem cRE346_good:Av.Good cRE346:=cRE345_good.loopN qeB 2 8 (by kernel_rfl) (fun _ _=>rfl) (fun x y s m K=>by kernel_rfl) (fun x y s s' K e=>by kernel_rfl)
noncomputable def cRE347:Ctx:=cRE346.addPlain 141 (plainT qfX qdJ qhS qq)
theorem cRE347_good:Av.Good cRE347:=cRE346_good.fnP qhS qjM qdJ qq 2 8 (by kernel_rfl) (fun x=>by kernel_rfl) qmv
noncomputable def cRE348:Ctx:=cRE347.addPlain 74 (plainT qgu qkr qiC qM)
theorem cRE348_good:Av.Good cRE348:=cRE347_good.fnP qiC qiY qkr qM 2 8 (by kernel_rfl) (fun x=>by kernel_rfl) qmT
noncomputable def cRE349:Ctx:=cRE348.addLoop 91 6 qdm.toT.toLoop
theorem cRE349_good:Av.Good cRE349:=cRE348_good.loopN qdm 2 8 (by kernel_rfl) (fun _ _=>rfl) (fun x y s m K=>by kernel_rfl) (fun x y s s' K e=>by kernel_rfl)
noncomputable def cRE350:Ctx:=cRE349.addBody 91 (bodyT qcQ qcN qdO qfp qbq qm)
theorem cRE350_good:Av.Good cRE350:=cRE349_good.fnB qdO qfF qbq qm 2 8 (by kernel_rfl) (fun x y=>by kernel_rfl) qk0
noncomputable def cRE351:Ctx:=cRE350.addBody 138 (bodyT qcs qct qdu qeW qbv qB)
theorem cRE351_good:Av.Good cRE351:=cRE350_good.fnB qdu qfj qbv qB 2 8 (by kernel_rfl) (fun x y=>by kernel_rfl) qkU
noncomputable def cRE352:Ctx:=cRE351.addBody 92 (bodyT qch qcm qdp qet qe9 qbE)
theorem cRE352_good:Av.Good cRE352:=cRE351_good.fnB qdp qho qe9 qbE 2 8 (by kernel_rfl) (fun x y=>by kernel_rfl) qkx
noncomputable def cRE353:Ctx:=cRE352.addPlain 112 (plainT qeb qhU qfG qw)
theorem cRE353_good:Av.Good cRE353:=cRE352_good.fnP qfG qec qhU qw 2 8 (by kernel_rfl) (fun x=>by kernel_rfl) qlE
noncomputable def cRE354:Ctx:=cRE353.addLoop 76 8 qd6.toT.toLoop
theorem cRE354_good:Av.Good cRE354:=cRE353_good.loopN qd6 2 8 (by kernel_rfl) (fun _ _=>rfl) (fun x y s m K=>by kernel_rfl) (fun x y s s' K e=>by kernel_rfl)
noncomputable def cRE355:Ctx:=cRE354.addLoop 76 15 qdw.toT.toLoop
theorem cRE355_good:Av.Good cRE355:=cRE354_good.loopN qdw 2 8 (by kernel_rfl) (fun _ _=>rfl) (fun x y s m K=>by kernel_rfl) (fun x y s s' K e=>by kernel_rfl)
noncomputable def cRE356:Ctx:=cRE355.addPlain 107 (plainT qgA qkm qiK qU)
theorem cRE356_good:Av.Good cRE356:=cRE355_good.fnP qiK qie qkm qU 2 8 (by kernel_rfl) (fun x=>by kernel_rfl) qmZ
noncomputable def cRE357:Ctx:=cRE356.addPlain 69 (plainT qfe qdi qg7 qbd)
theorem cRE357_good:Av.Good cRE357:=cRE356_good.fnP qg7 qbh qdi qbd 2 8 (by kernel_rfl) (fun x=>by kernel_rfl) qmc
noncomputable def cRE358:Ctx:=cRE357.addPlain 158 (plainT qfT qi qhw qb)
theorem cRE358_good:Av.Good cRE358:=cRE357_good.fnP qhw qhA qi qb 2 8 (by kernel_rfl) (fun x=>by kernel_rfl) qmL
noncomputable def cRE359:Ctx:=cRE358.addPlain 148 (plainT qfU q9 qhI qW)
theorem cRE359_good:Av.Good cRE359:=cRE358_good.fnP qhI qhR q9 qW 2 8 (by kernel_rfl) (fun x=>by kernel_rfl) qmF
noncomputable def cRE360:Ctx:=cRE359.addPlain 159 (plainT qeA qbc qgh qR)
theorem cRE360_good:Av.Good cRE360:=cRE359_good.fnP qgh qeK qbc qR 2 8 (by kernel_rfl) (fun x=>by kernel_rfl) qlU
noncomputable def cRE361:Ctx:=cRE360.addLoop 174 2 qbx.toT.toLoop
theorem cRE361_good:Av.Good cRE361:=cRE360_good.loopN qbx 2 8 (by kernel_rfl) (fun _ _=>rfl) (fun x y s m K=>by kernel_rfl) (fun x y s s' K e=>by kernel_rfl)
noncomputable def cRE362:Ctx:=cRE361.addPlain 174 (plainT qf6 qD qhr qK)
theorem cRE362_good:Av.Good cRE362:=cRE361_good.fnP qhr qjN qD qK 2 8 (by kernel_rfl) (fun x=>by kernel_rfl) qmE
noncomputable def cRE363:Ctx:=cRE362.addPlain 146 (plainT qfN qjH qhQ qbe)
theorem cRE363_good:Av.Good cRE363:=cRE362_good.fnP qhQ qjJ qjH qbe 2 8 (by kernel_rfl) (fun x=>by kernel_rfl) qmt
noncomputable def cRE364:Ctx:=cRE363.addPlain 147 (plainT qeL qcU qgk qbp)
theorem cRE364_good:Av.Good cRE364:=cRE363_good.fnP qgk qdC qcU qbp 2 12 (by kernel_rfl) (fun x=>by kernel_rfl) qlS
noncomputable def cRE365:Ctx:=cRE364.addPlain 160 (plainT qfo qde qgY qbu)
theorem cRE365_good:Av.Good cRE365:=cRE364_good.fnP qgY qd8 qde qbu 3 12 (by kernel_rfl) (fun x=>by kernel_rfl) ql1
noncomputable def cRE366:Ctx:=cRE365.addPlain 161 (plainT qek qcJ qfz qbk)
theorem cRE366_good:Av.Good cRE366:=cRE365_good.fnP qfz qdf qcJ qbk 2 12 (by kernel_rfl) (fun x=>by kernel_rfl) qlF
noncomputable def cRE367:Ctx:=cRE366.addPlain 162 (plainT qfl qdg qg9 qbt)
theorem cRE367_good:Av.Good cRE367:=cRE366_good.fnP qg9 qd9 qdg qbt 2 12 (by kernel_rfl) (fun x=>by kernel_rfl) ql2
noncomputable def cRE368:Ctx:=cRE367.addPlain 163 (plainT qeH qc1 qgl qbo)
theorem cRE368_good:Av.Good cRE368:=cRE367_good.fnP qgl qdz qc1 qbo 2 12 (by kernel_rfl) (fun x=>by kernel_rfl) ql0
noncomputable def cRE369:Ctx:=cRE368.addPlain 149 (plainT qf7 qew qhH qdI)
theorem cRE369_good:Av.Good cRE369:=cRE368_good.fnP qhH qez qew qdI 2 12 (by kernel_rfl) (fun x=>by kernel_rfl) qmr
noncomputable def cRE370:Ctx:=cRE369.addPlain 136 (plainT qeS qdB qgg ql)
theorem cRE370_good:Av.Good cRE370:=cRE369_good.fnP qgg qdy qdB ql 2 12 (by kernel_rfl) (fun x=>by kernel_rfl) qlT
noncomputable def cRE371:Ctx:=cRE370.addPlain 113 (plainT qhd qji qjj qeZ)
theorem cRE371_good:Av.Good cRE371:=cRE370_good.fnP qjj qlG qji qeZ 2 8 (by kernel_rfl) (fun x=>by kernel_rfl) qm4
noncomputable def cRE372:Ctx:=cRE371.addPlain 10 (plainT qeO qia qgn qp)
theorem cRE372_good:Av.Good cRE372:=cRE371_good.fnP qgn qeC qia qp 2 8 (by kernel_rfl) (fun x=>by kernel_rfl) qlX
noncomputable def cRE373:Ctx:=cRE372.addBody 78 (bodyT qcr qcA qdF qe3 qbJ qdD)
theorem cRE373_good:Av.Good cRE373:=cRE372_good.fnB qdF qfh qbJ qdD 3 8 (by kernel_rfl) (fun x y=>by kernel_rfl) qkO
noncomputable def cRE374:Ctx:=cRE373.addCut 114 5 qbA.toT.toLoop
theorem cRE374_good:Av.Good cRE374:=cRE373_good.cutN qbA 2 8 (by kernel_rfl) (fun _ _=>rfl) (fun x y K=>by kernel_rfl)
noncomputable def cRE375:Ctx:=cRE374.addBody 41 (bodyT qcc qcd qdk qev qe4 qe7)
theorem cRE375_good:Av.Good cRE375:=cRE374_good.fnB qdk qhn qe4 qe7 2 8 (by kernel_rfl) (fun x y=>by kernel_rfl) qkw
noncomputable def cRE376:Ctx:=cRE375.addBody 43 (bodyT qbY qbZ qda qef qes qeo)
theorem cRE376_good:Av.Good cRE376:=cRE375_good.fnB qda qhb qes qeo 2 8 (by kernel_rfl) (fun x y=>by kernel_rfl) qkl
noncomputable def cRE377:Ctx:=cRE376.addBody 50 (bodyT qbG qbH qc5 qdQ qbU qej)
theorem cRE377_good:Av.Good cRE377:=cRE376_good.fnB qc5 qgO qbU qej 3 8 (by kernel_rfl) (fun x y=>by kernel_rfl) qj1
noncomputable def cRE378:Ctx:=cRE377.addBody 51 (bodyT qbW qbT qdd qeh qep qen)
theorem cRE378_good:Av.Good cRE378:=cRE377_good.fnB qdd qha qep qen 3 8 (by kernel_rfl) (fun x y=>by kernel_rfl) qkg
noncomputable def cRE379:Ctx:=cRE378.addBody 42 (evStep cRE378 drawOk 8 4 42 79 148)
theorem cRE379_good:Av.Good cRE379:=cRE378_good.addBody (step_ok cRE378_good (by kernel_rfl) 8 4) (by kernel_rfl)
noncomputable def cRE380:Ctx:=cRE379.addBody 42 (bodyT qcf qcl qdn qeu qN qg)
theorem cRE380_good:Av.Good cRE380:=cRE379_good.fnB qdn qe2 qN qg 2 8 (by kernel_rfl) (fun x y=>by kernel_rfl) qky
noncomputable def cRE381:Ctx:=cRE380.addLoop 48 2 qgH.toT.toLoop
theorem cRE381_good:Av.Good cRE381:=cRE380_good.loopN qgH 3 8 (by kernel_rfl) (fun _ _=>rfl) (fun x y s m K=>by kernel_rfl) (fun x y s s' K e=>by kernel_rfl)
noncomputable def cRE382:Ctx:=cRE381.addBody 48 (bodyT qbX qbV qdc qed qdb qer)
theorem cRE382_good:Av.Good cRE382:=cRE381_good.fnB qdc qeq qdb qer 3 8 (by kernel_rfl) (fun x y=>by kernel_rfl) qkj
noncomputable def cRE383:Ctx:=cRE382.addPlain 133 (plainT qju qgw qkC qhZ)
theorem cRE383_good:Av.Good cRE383:=cRE382_good.fnP qkC qgx qgw qhZ 2 8 (by kernel_rfl) (fun x=>by kernel_rfl) qnB
noncomputable def cRE384:Ctx:=cRE383.addPlain 109 (plainT qfL qjQ qhJ qb4)
theorem cRE384_good:Av.Good cRE384:=cRE383_good.fnP qhJ qhx qjQ qb4 2 8 (by kernel_rfl) (fun x=>by kernel_rfl) qmK
noncomputable def cRE385:Ctx:=cRE384.addPlain 111 (plainT qil qca qjX qC)
theorem cRE385_good:Av.Good cRE385:=cRE384_good.fnP qjX qfC qca qC 2 8 (by kernel_rfl) (fun x=>by kernel_rfl) qnn
noncomputable def cRE386:Ctx:=cRE385.addPlain 72 (plainT qfS qjR qhE qO)
theorem cRE386_good:Av.Good cRE386:=cRE385_good.fnP qhE qex qjR qO 3 8 (by kernel_rfl) (fun x=>by kernel_rfl) qmI
noncomputable def cRE387:Ctx:=cRE386.addPlain 73 (plainT qf2 qjL qhz qy)
theorem cRE387_good:Av.Good cRE387:=cRE386_good.fnP qhz qhs qjL qy 2 20 (by kernel_rfl) (fun x=>by kernel_rfl) qmy
noncomputable def cRE388:Ctx:=cRE387.addLoop 75 7 qeF.toT.toLoop
theorem cRE388_good:Av.Good cRE388:=cRE387_good.loopN qeF 3 8 (by kernel_rfl) (fun _ _=>rfl) (fun x y s m K=>by kernel_rfl) (fun x y s s' K e=>by kernel_rfl)
noncomputable def cRE389:Ctx:=cRE388.addPlain 75 (plainT qf3 qhC qht qv)
theorem cRE389_good:Av.Good cRE389:=cRE388_good.fnP qht qhK qhC qv 4 8 (by kernel_rfl) (fun x=>by kernel_rfl) qms
noncomputable def cRE390:Ctx:=cRE389.addCut 21 12 qdL.toT.toLoop
theorem cRE390_good:Av.Good cRE390:=cRE389_good.cutN qdL 6 12 (by kernel_rfl) (fun _ _=>rfl) (fun x y K=>by kernel_rfl)
noncomputable def cRE391:Ctx:=cRE390.addPlain 21 (plainT qfO qjU qhL qjV)
theorem cRE391_good:Av.Good cRE391:=cRE390_good.fnP qhL qjD qjU qjV 6 12 (by kernel_rfl) (fun x=>by kernel_rfl) qmz
noncomputable def cRE392:Ctx:=cRE391.addPlain 104 (plainT qgE qei qiV qeg)
theorem cRE392_good:Av.Good cRE392:=cRE391_good.fnP qiV qgN qei qeg 2 8 (by kernel_rfl) (fun x=>by kernel_rfl) qm1
noncomputable def cRE393:Ctx:=cRE392.addPlain 142 (plainT qgP qko qh9 qdq)
theorem cRE393_good:Av.Good cRE393:=cRE392_good.fnP qh9 qfc qko qdq 2 8 (by kernel_rfl) (fun x=>by kernel_rfl) qmN
noncomputable def cRE394:Ctx:=cRE393.addPlain 124 (plainT qiO qlk qj5 qcI)
theorem cRE394_good:Av.Good cRE394:=cRE393_good.fnP qj5 qgZ qlk qcI 2 8 (by kernel_rfl) (fun x=>by kernel_rfl) qnk
noncomputable def cRE395:Ctx:=cRE394.addLoop 67 3 qhf.toT.toLoop
theorem cRE395_good:Av.Good cRE395:=cRE394_good.loopN qhf 2 8 (by kernel_rfl) (fun _ _=>rfl) (fun x y s m K=>by kernel_rfl) (fun x y s s' K e=>by kernel_rfl)
noncomputable def cRE396:Ctx:=cRE395.addPlain 67 (plainT qjq qfv qkB qeP)
theorem cRE396_good:Av.Good cRE396:=cRE395_good.fnP qkB qjs qfv qeP 2 8 (by kernel_rfl) (fun x=>by kernel_rfl) qnA
noncomputable def cRE397:Ctx:=cRE396.addLoop 101 3 qce.toT.toLoop
theorem cRE397_good:Av.Good cRE397:=cRE396_good.loopN qce 2 8 (by kernel_rfl) (fun _ _=>rfl) (fun x y s m K=>by kernel_rfl) (fun x y s s' K e=>by kernel_rfl)
noncomputable def cRE398:Ctx:=cRE397.addLoop 99 2 qci.toT.toLoop
theorem cRE398_good:Av.Good cRE398:=cRE397_good.loopN qci 2 8 (by kernel_rfl) (fun _ _=>rfl) (fun x y s m K=>by kernel_rfl) (fun x y s s' K e=>by kernel_rfl)
noncomputable def cRE399:Ctx:=cRE398.addLoop 99 8 qck.toT.toLoop
theorem cRE399_good:Av.Good cRE399:=cRE398_good.loopN qck 2 8 (by kernel_rfl) (fun _ _=>rfl) (fun x y s m K=>by kernel_rfl) (fun x y s s' K e=>by kernel_rfl)
noncomputable def cRE3100:Ctx:=cRE399.addLoop 100 2 qcg.toT.toLoop
theorem cRE3100_good:Av.Good cRE3100:=cRE399_good.loopN qcg 2 8 (by kernel_rfl) (fun _ _=>rfl) (fun x y s m K=>by kernel_rfl) (fun x y s s' K e=>by kernel_rfl)
noncomputable def cRE3101:Ctx:=cRE3100.addLoop 100 11 qb2.toT.toLoop
theorem cRE3101_good:Av.Good cRE3101:=cRE3100_good.loopN qb2 2 8 (by kernel_rfl) (fun _ _=>rfl) (fun x y s m K=>by kernel_rfl) (fun x y s s' K e=>by kernel_rfl)
noncomputable def cRE3102:Ctx:=cRE3101.addBody 70 body_WriteString
theorem cRE3102_good:Av.Good cRE3102:=cRE3101_good.addBody write_body (by kernel_rfl)
noncomputable def cRE3103:Ctx:=cRE3102.addBody 71 body_String
theorem cRE3103_good:Av.Good cRE3103:=cRE3102_good.addBody string_body (by kernel_rfl)
noncomputable def cRE3104:Ctx:=cRE3103.addPlain 68 snap_asm_assembler_offset
theorem cRE3104_good:Av.Good cRE3104:=cRE3103_good.addSnap offset_plain (by kernel_rfl) offset_snap
noncomputable def cRE3105:Ctx:=cRE3104.addBody 99 (bodyT qcC qcE qdx qeX qbK qa)
theorem cRE3105_good:Av.Good cRE3105:=cRE3104_good.fnB qdx qcS qbK qa 3 8 (by kernel_rfl) (fun x y=>by kernel_rfl) qkK
noncomputable def cRE3106:Ctx:=cRE3105.addBody 100 (bodyT qcz qcn qdA qe0 qbO qf)
theorem cRE3106_good:Av.Good cRE3106:=cRE3105_good.fnB qdA qcK qbO qf 3 8 (by kernel_rfl) (fun x y=>by kernel_rfl) qkV
noncomputable def cRE3107:Ctx:=cRE3106.addBody 101 (bodyT qco qcq qdv qeY qbQ qH)
theorem cRE3107_good:Av.Good cRE3107:=cRE3106_good.fnB qdv qbI qbQ qH 3 8 (by kernel_rfl) (fun x y=>by kernel_rfl) qkF
noncomputable def cRE3108:Ctx:=cRE3107.addBody 65 (bodyT qcD qcB qds qe5 qbR qbM)
theorem cRE3108_good:Av.Good cRE3108:=cRE3107_good.fnB qds qbN qbR qbM 4 8 (by kernel_rfl) (fun x y=>by kernel_rfl) qkL
noncomputable def cRE3109:Ctx:=cRE3108.addLoop 66 4 qcj.toT.toLoop
theorem cRE3109_good:Av.Good cRE3109:=cRE3108_good.loopN qcj 2 8 (by kernel_rfl) (fun _ _=>rfl) (fun x y s m K=>by kernel_rfl) (fun x y s s' K e=>by kernel_rfl)
noncomputable def cRE3110:Ctx:=cRE3109.addBody 66 (bodyT qcy qcv qdE qe1 qbS qA)
theorem cRE3110_good:Av.Good cRE3110:=cRE3109_good.fnB qdE qbP qbS qA 3 8 (by kernel_rfl) (fun x y=>by kernel_rfl) qkM
noncomputable def cRE3111:Ctx:=cRE3110.addLoop 38 5 qel.toT.toLoop
theorem cRE3111_good:Av.Good cRE3111:=cRE3110_good.loopN qel 3 8 (by kernel_rfl) (fun _ _=>rfl) (fun x y s m K=>by kernel_rfl) (fun x y s s' K e=>by kernel_rfl)
noncomputable def cRE3112:Ctx:=cRE3111.addLoop 38 10 qdK.toT.toLoop
theorem cRE3112_good:Av.Good cRE3112:=cRE3111_good.loopN qdK 3 8 (by kernel_rfl) (fun _ _=>rfl) (fun x y s m K=>by kernel_rfl) (fun x y s s' K e=>by kernel_rfl)
noncomputable def cRE3113:Ctx:=cRE3112.addPlain 38 (plainT qfb qb7 qg6 qj)
theorem cRE3113_good:Av.Good cRE3113:=cRE3112_good.fnP qg6 qcM qb7 qj 3 8 (by kernel_rfl) (fun x=>by kernel_rfl) ql9
noncomputable def cRE3114:Ctx:=cRE3113.addPlain 32 (plainT qly qku qlx qkt)
theorem cRE3114_good:Av.Good cRE3114:=cRE3113_good.fnP qlx qlB qku qkt 3 8 (by kernel_rfl) (fun x=>by kernel_rfl) qmY
noncomputable def cRE3115:Ctx:=cRE3114.addPlain 88 (plainT qfg qi7 qk5 qgW)
theorem cRE3115_good:Av.Good cRE3115:=cRE3114_good.fnP qk5 qi8 qi7 qgW 3 8 (by kernel_rfl) (fun x=>by kernel_rfl) qmh
noncomputable def cRE3116:Ctx:=cRE3115.addPlain 45 (plainT qfq qi3 qkZ qdh)
theorem cRE3116_good:Av.Good cRE3116:=cRE3115_good.fnP qkZ qi5 qi3 qdh 8 12 (by kernel_rfl) (fun x=>by kernel_rfl) qmg
noncomputable def cRE3117:Ctx:=cRE3116.addPlain 55 (plainT qhi qkQ qlN qkN)
theorem cRE3117_good:Av.Good cRE3117:=cRE3116_good.fnP qlN qlK qkQ qkN 8 12 (by kernel_rfl) (fun x=>by kernel_rfl) qm9
noncomputable def cRE3118:Ctx:=cRE3117.addLoop 52 2 qbz.toT.toLoop
theorem cRE3118_good:Av.Good cRE3118:=cRE3117_good.loopN qbz 3 8 (by kernel_rfl) (fun _ _=>rfl) (fun x y s m K=>by kernel_rfl) (fun x y s s' K e=>by kernel_rfl)
noncomputable def cRE3119:Ctx:=cRE3118.addPlain 52 (plainT qfm qd5 qk6 qb8)
theorem cRE3119_good:Av.Good cRE3119:=cRE3118_good.fnP qk6 qja qd5 qb8 3 8 (by kernel_rfl) (fun x=>by kernel_rfl) qmf
noncomputable def cRE3120:Ctx:=cRE3119.addPlain 22 (plainT qeE qiA qgm qiQ)
theorem cRE3120_good:Av.Good cRE3120:=cRE3119_good.fnP qgm qgo qiA qiQ 3 8 (by kernel_rfl) (fun x=>by kernel_rfl) qlZ
noncomputable def cRE3121:Ctx:=cRE3120.addPlain 24 (plainT qgs qkh qiw qkk)
theorem cRE3121_good:Av.Good cRE3121:=cRE3120_good.fnP qiw qiB qkh qkk 4 8 (by kernel_rfl) (fun x=>by kernel_rfl) qmR
noncomputable def cRE3122:Ctx:=cRE3121.addPlain 23 (plainT qeU qiP qgj qh6)
theorem cRE3122_good:Av.Good cRE3122:=cRE3121_good.fnP qgj qgi qiP qh6 4 8 (by kernel_rfl) (fun x=>by kernel_rfl) qlY
noncomputable def cRE3123:Ctx:=cRE3122.addPlain 29 (plainT qfk qi6 qg1 qjd)
theorem cRE3123_good:Av.Good cRE3123:=cRE3122_good.fnP qg1 qg2 qi6 qjd 3 8 (by kernel_rfl) (fun x=>by kernel_rfl) ql8
noncomputable def cRE3124:Ctx:=cRE3123.addPlain 19 (plainT qc4 qfI qiD qfE)
theorem cRE3124_good:Av.Good cRE3124:=cRE3123_good.fnP qiD qiL qfI qfE 9 12 (by kernel_rfl) (fun x=>by kernel_rfl) qk4
noncomputable def cRE3125:Ctx:=cRE3124.addPlain 26 (plainT qcW qfD qh2 qfB)
theorem cRE3125_good:Av.Good cRE3125:=cRE3124_good.fnP qh2 qiE qfD qfB 9 12 (by kernel_rfl) (fun x=>by kernel_rfl) qk3
noncomputable def cRE3126:Ctx:=cRE3125.addLoop 39 6 qdt.toT.toLoop
theorem cRE3126_good:Av.Good cRE3126:=cRE3125_good.loopN qdt 4 8 (by kernel_rfl) (fun _ _=>rfl) (fun x y s m K=>by kernel_rfl) (fun x y s s' K e=>by kernel_rfl)
noncomputable def cRE3127:Ctx:=cRE3126.addPlain 39 (plainT qfZ qdG qhD qo)
theorem cRE3127_good:Av.Good cRE3127:=cRE3126_good.fnP qhD qjO qdG qo 4 8 (by kernel_rfl) (fun x=>by kernel_rfl) qmD
noncomputable def cRE3128:Ctx:=cRE3127.addOwn 46
theorem cRE3128_good:Av.Good cRE3128:=cRE3127_good.addOwn 46
noncomputable def cRE3129:Ctx:=cRE3128.addLoop 20 3 qe8.toT.toLoop
theorem cRE3129_good:Av.Good cRE3129:=cRE3128_good.loopN qe8 4 8 (by kernel_rfl) (fun _ _=>rfl) (fun x y s m K=>by kernel_rfl) (fun x y s s' K e=>by kernel_rfl)
noncomputable def cRE3130:Ctx:=cRE3129.addLoop 47 4 qe6.toT.toLoop
theorem cRE3130_good:Av.Good cRE3130:=cRE3129_good.loopN qe6 3 8 (by kernel_rfl) (fun _ _=>rfl) (fun x y s m K=>by kernel_rfl) (fun x y s s' K e=>by kernel_rfl)
noncomputable def cRE3131:Ctx:=cRE3130.addPlain 47 (plainT qcX qdU qdP qdW)
theorem cRE3131_good:Av.Good cRE3131:=cRE3130_good.fnP qdP qdS qdU qdW 4 8 (by kernel_rfl) (fun x=>by kernel_rfl) qk1
noncomputable def cRE3132:Ctx:=cRE3131.addPlain 18 (plainT qdr qgG qeT qgM)
theorem cRE3132_good:Av.Good cRE3132:=cRE3131_good.fnP qeT qeQ qgG qgM 3 8 (by kernel_rfl) (fun x=>by kernel_rfl) qlu
noncomputable def cRE3133:Ctx:=cRE3132.addPlain 20 (plainT qcY qfH qdV qfx)
theorem cRE3133_good:Av.Good cRE3133:=cRE3132_good.fnP qdV qdM qfH qfx 4 8 (by kernel_rfl) (fun x=>by kernel_rfl) qk7
noncomputable def cRE3134:Ctx:=cRE3133.addPlain 62 (plainT qfQ qjC qhu qbB)
theorem cRE3134_good:Av.Good cRE3134:=cRE3133_good.fnP qhu qhM qjC qbB 2 8 (by kernel_rfl) (fun x=>by kernel_rfl) qmC
noncomputable def cRE3135:Ctx:=cRE3134.addPlain 61 (plainT qhq qkR qjm qbF)
theorem cRE3135_good:Av.Good cRE3135:=cRE3134_good.fnP qjm qd3 qkR qbF 2 8 (by kernel_rfl) (fun x=>by kernel_rfl) qnc
noncomputable def cRE3136:Ctx:=cRE3135.addPlain 81 (plainT qgz qkp qiI qbs)
theorem cRE3136_good:Av.Good cRE3136:=cRE3135_good.fnP qiI qgF qkp qbs 3 8 (by kernel_rfl) (fun x=>by kernel_rfl) qm0
noncomputable def cRE3137:Ctx:=cRE3136.addPlain 36 (plainT qio qeM qlh qll)
theorem cRE3137_good:Av.Good cRE3137:=cRE3136_good.fnP qlh qig qeM qll 3 8 (by kernel_rfl) (fun x=>by kernel_rfl) qnj
noncomputable def cRE3138:Ctx:=cRE3137.addPlain 33 (plainT qlR qkW qlQ qkG)
theorem cRE3138_good:Av.Good cRE3138:=cRE3137_good.fnP qlQ qlI qkW qkG 3 8 (by kernel_rfl) (fun x=>by kernel_rfl) qnf
noncomputable def cRE3139:Ctx:=cRE3138.addPlain 15 (plainT qka qle qlm qn)
theorem cRE3139_good:Av.Good cRE3139:=cRE3138_good.fnP qlm ql6 qle qn 3 8 (by kernel_rfl) (fun x=>by kernel_rfl) qnq
noncomputable def cRE3140:Ctx:=cRE3139.addPlain 60 (plainT qhc qkJ qlM qkP)
theorem cRE3140_good:Av.Good cRE3140:=cRE3139_good.fnP qlM qlL qkJ qkP 8 12 (by kernel_rfl) (fun x=>by kernel_rfl) qnd
noncomputable def cRE3141:Ctx:=cRE3140.addPlain 13 (plainT qgK qkn qlz qcF)
theorem cRE3141_good:Av.Good cRE3141:=cRE3140_good.fnP qlz qlC qkn qcF 8 12 (by kernel_rfl) (fun x=>by kernel_rfl) qmU
noncomputable def cRE3142:Ctx:=cRE3141.addPlain 17 (plainT qdH qjG qf5 qb5)
theorem cRE3142_good:Av.Good cRE3142:=cRE3141_good.fnP qf5 qjI qjG qb5 8 12 (by kernel_rfl) (fun x=>by kernel_rfl) qmx
noncomputable def cRE3143:Ctx:=cRE3142.addPlain 11 (plainT qcZ qfy qiU qfw)
theorem cRE3143_good:Av.Good cRE3143:=cRE3142_good.fnP qiU qib qfy qfw 8 12 (by kernel_rfl) (fun x=>by kernel_rfl) qk8
noncomputable def cRE3144:Ctx:=cRE3143.addOwn 12
theorem cRE3144_good:Av.Good cRE3144:=cRE3143_good.addOwn 12
noncomputable def cRE3145:Ctx:=cRE3144.addOwn 14
theorem cRE3145_good:Av.Good cRE3145:=cRE3144_good.addOwn 14
noncomputable def cRE3146:Ctx:=cRE3145.addLoop 16 6 qcx.toT.toLoop
theorem cRE3146_good:Av.Good cRE3146:=cRE3145_good.loopN qcx 3 8 (by kernel_rfl) (fun _ _=>rfl) (fun x y s m K=>by kernel_rfl) (fun x y s s' K e=>by kernel_rfl)
noncomputable def cRE3147:Ctx:=cRE3146.addLoop 16 17 qZ.toT.toLoop
theorem cRE3147_good:Av.Good cRE3147:=cRE3146_good.loopN qZ 4 8 (by kernel_rfl) (fun _ _=>rfl) (fun x y s m K=>by kernel_rfl) (fun x y s s' K e=>by kernel_rfl)
noncomputable def cRE3148:Ctx:=cRE3147.addLoop 16 27 qbn.toT.toLoop
theorem cRE3148_good:Av.Good cRE3148:=cRE3147_good.loopN qbn 3 8 (by kernel_rfl) (fun _ _=>rfl) (fun x y s m K=>by kernel_rfl) (fun x y s s' K e=>by kernel_rfl)
noncomputable def cRE3149:Ctx:=cRE3148.addPlain 16 (plainT qc0 qP qdX qu)
theorem cRE3149_good:Av.Good cRE3149:=cRE3148_good.fnP qdX qb6 qP qu 6 12 (by kernel_rfl) (fun x=>by kernel_rfl) qk2
noncomputable def cRE3150:Ctx:=cRE3149.addLoop 3 8 qbb.toT.toLoop
theorem cRE3150_good:Av.Good cRE3150:=cRE3149_good.loopN qbb 3 8 (by kernel_rfl) (fun _ _=>rfl) (fun x y s m K=>by kernel_rfl) (fun x y s s' K e=>by kernel_rfl)
noncomputable def cRE3151:Ctx:=cRE3150.addLoop 4 8 qbg.toT.toLoop
theorem cRE3151_good:Av.Good cRE3151:=cRE3150_good.loopN qbg 3 8 (by kernel_rfl) (fun _ _=>rfl) (fun x y s m K=>by kernel_rfl) (fun x y s s' K e=>by kernel_rfl)
noncomputable def cRE3:Ctx:=cRE3151
theorem cRE3_good:Av.Good cRE3:=cRE3151_good
end Go.Proofs.YtealbjacocgjcaaGreat
end
section
namespace Go.Av
open Go
section
variable {E:Env} {mo mr:Nat} (H:HandAt E mo mr)
include H
end
end Go.Av
end
section
namespace Go.Av
open Go
theorem hit_mem (f:tFault.den) (s:IS):(hitI f s).2.2=s.2.2:=by
 unfold hitI
 cases (f.1==(2:Int))
 ·cases (f.1==(3:Int))<;>rfl
 ·rfl
theorem step_skip {E:Env} {j:Nat} {p:PI} (h:E.P[j]?=some p) (s:IS):stepI E true j s=(false,j+1,s):=by
 unfold stepI
 rw[h]
 rfl
section
variable {E:Env} {mo mr:Nat} (H:HandAt E mo mr)
include H
end
end Go.Av
end
section
namespace Go.Av
open Go
def notEnd (E:Env) (j:Nat):Bool:=match E.P[j]? with
 |some (.op i)=>!(i.1==2)
 |_=>true
theorem step_on {E:Env} {j:Nat} (h:notEnd E j=true) (sk:Bool) (s:IS):(stepI E sk j s).1=false:=by
 unfold notEnd at h
 unfold stepI
 cases hp:E.P[j]? with
 |none=>rfl
 |some p =>
  rw[hp] at h
  cases sk
  ·show(atI E j s p).1=false
   cases p with
   |op i =>
    have h:(i.1==(2:Int))=false:=by simpa using h
    show(doI E j i s).1=false
    unfold doI
    rw[h]
    cases (i.1==(19:Int))
    ·cases (i.1==(20:Int))
     ·cases (i.1==(23:Int))<;>rfl
     ·cases E.okW (s.1 i.2.2.1)<;>rfl
    ·cases E.okR (s.1 i.2.2.1)<;>rfl
   |br o c t =>
    show(bif goesF s.2.1 o c then(false,t,s) else(false,j+1,s)).1=false
    cases goesF s.2.1 o c<;>rfl
  ·rfl
theorem step_part {E:Env} {f:Nat→Bool} {j:Nat} (h1:notEnd E j=true) (h2:sucIn E f j=true) (h3:f (j+1)=true) (h4:f E.h=true) (sk:Bool) (s:IS):∃j' s',stepI E sk j s=(false,j',s')∧f j'=true:=by
 cases sk
 ·refine⟨(stepI E false j s).2.1,(stepI E false j s).2.2,?_,suc_ok h2 s (step_on h1 false s)⟩
  have:=step_on h1 false s
  generalize stepI E false j s=q at *
  obtain⟨b,j',s'⟩:=q
  cases this
  rfl
 ·unfold stepI
  cases hp:E.P[j]? with
  |none=>exact⟨_,_,rfl,h4⟩
  |some p=>exact⟨_,_,rfl,h3⟩
section
variable (mo mr n:Nat)
def hE:Env:=handE (4*mo) (4*mr) n true
theorem in_range' {f:Nat→Bool} {a m:Nat} (h:(List.range' a m).all f=true) {j:Nat} (h1:a≤j) (h2:j<a+m):f j=true:=List.all_eq_true.1 h j (List.mem_range'_1.2 ⟨h1,h2⟩)
variable {mo mr n}
variable (hs:SzOk (4*mo) (4*mr) n)
include hs
end
end Go.Av
end
section
namespace Go.Av
open Go
theorem asm_built {it:List tItem.den} (hI:ItOk it) (o r:Nat) (ho:o≤65536) (h4:o % 4=0) (hr:4≤r∧r≤65536) (hr4:r % 4=0) {h:Int} {k:Nat} (hk:k<it.length) (hl:isLab it h k=true) (hc:cntI it k<cntI it it.length) :
  ∃ws code hd,qb7 (it,64)=true∧qj (it,64)=(code,placesTo it 64 ws it.length,0,())∧hd=(64,posI it 64 ws k,((0:Int),(o:Int),(r:Int),()),0,()) ∧
   (∀z,(placesTo it 64 ws it.length).foldl (atF h) z=posI it 64 ws k)∧(placesTo it 64 ws it.length).length≤21000∧qdG (hd,code)=true∧qo (hd,code)=(headB hd++code,0,()) ∧
   IsImg it o r k (headB hd++code) hd (adrI it 64 ws)∧∀i,i≤it.length→adrI it 64 ws (cntI it i)=posI it 64 ws i:=by
 have hf:=itok_fine hI
 have hn:=hI.len
 obtain⟨a1,⟨hc0,_⟩ |⟨_,K,hK,hv⟩⟩:=asm_val it 64 hn
 ·exfalso
  apply hc0
  unfold codeM
  have n1:firstP (badJ it) it.length=none:=by
   cases e:firstP (badJ it) it.length with
   |none=>rfl
   |some j=>obtain⟨j1,j2,_⟩:=firstP_some e;rw[hf.item j j1] at j2;cases j2
  have n2:firstP (chkAt it) it.length=none:=by
   cases e:firstP (chkAt it) it.length with
   |none=>rfl
   |some j=>obtain⟨j1,j2,_⟩:=firstP_some e;rw[hf.chk j j1] at j2;cases j2
  have n3:firstP (dupAt it) it.length=none:=by
   cases e:firstP (dupAt it) it.length with
   |none=>rfl
   |some j=>obtain⟨j1,j2,_⟩:=firstP_some e;rw[hf.dup j j1] at j2;cases j2
  have n4:firstP (missAt it) it.length=none:=by
   cases e:firstP (missAt it) it.length with
   |none=>rfl
   |some j=>obtain⟨j1,j2,_⟩:=firstP_some e;rw[hf.miss j j1] at j2;cases j2
  have hb:baseBad 64=false:=rfl
  rw[hb,cond_false,n1,n2,n3,n4]
  dsimp only
  rw[dec_false (show ¬posI it 0 (allT it) it.length > 262144 by have:=hf.small;omega)]
  rfl
 ·have hK:(passTo it 64 (widesAt it 64 K) it.length).1=false:=hK
  generalize hws:widesAt it 64 K=ws at *
  have hpl:(placesTo it 64 ws it.length).length≤21000:=Nat.le_trans (places_len it 64 ws it.length) hn
  have hbl:=bytes_len it 64 ws it.length
  have hfold:=fun z=>places_fold ws hI.nodup hk hl z it.length (Nat.le_refl _)
  obtain⟨hby,_⟩:=insTo_bytes it 64 ws it.length (fun j hj h=>ins_ok it 64 ws hn hf hK hj h)
  have hcat:=cat_pos it 64 ws hn hf hK (Nat.le_refl _)
  rw[←hby] at hcat
  have hpk:=pos_lt hn hf hK (show k≤it.length by omega) (Nat.le_refl _) hc
  have hpk0:=pos_bound it 64 ws k
  have hev:=item_even it ws k
  generalize hcd:bytesTo it 64 ws it.length=code at *
  generalize hhd:((64,posI it 64 ws k,((0:Int),(o:Int),(r:Int),()),0,()):tHead.den)=hd
  have hchk:qO (hd,w64 (64+lenI code))=0:=by
   have e:w64 (64+lenI code)=((64+code.length:Nat):Int):=by
    simp only[lenI]
    rw[w64_id (by omega) (by omega)]
    omega
   rw[e,←hhd]
   exact imgcheck_ok _ o r _ ho h4 hr hr4 (by omega) (by omega) ⟨by omega,by omega⟩ hev
  have hGB:qdG (hd,code)=true:=decide_eq_true (by show code.length≤140737488300000;omega)
  have hVB:qo (hd,code)=(headB hd++code,0,()):=by
   unfold qo
   dsimp only
   rw[hchk]
   rfl
  have hlen:(headB hd++code).length=64+code.length:=by rw[List.length_append,headB_len]
  refine⟨ws,code,hd,a1,hv,hhd.symm,fun z=>by rw[hfold z,if_pos hk],hpl,hGB,hVB,⟨?_,?_,?_,?_⟩,fun i hi=>adr_at it 64 ws hi⟩
  ·rw[←hhd]
   refine parse_built _ _ _ code ⟨by omega,by omega⟩ hev ⟨by omega,by omega⟩ ⟨by omega,by omega⟩ ?_
   have e:lenI (headB (64,posI it 64 ws k,((0:Int),(o:Int),(r:Int),()),0,())++code)=((64+code.length:Nat):Int):=by
    simp only[lenI]
    rw[List.length_append,headB_len]
   rw[e]
   exact imgcheck_ok _ o r _ ho h4 hr hr4 (by omega) (by omega) ⟨by omega,by omega⟩ hev
  ·rw[←hhd]
  ·refine asm_prg it ws hn hf hK (headB hd) (headB hd++code) (headB_len hd) (by rw[hcd]) (fun i hi h0=>?_) hd k (by omega) (by rw[←hhd]) o r ⟨ho,hr.2,by rw[hlen];omega⟩
   have:=hI.all _ (item_mem hi)
   unfold jOk at this
   rw[h0,cond_true] at this
   exact this
  ·have:=adr_at it 64 ws (i:=0) (Nat.zero_le _)
   exact this
theorem where6 (lb:Int) (code:List UInt8) (pl:List tPlace.den) (f:tFault.den) (hp:pl.length≤21000):LoopN.res qcx (lb,(),code,pl,64,0) f=some (0,(pl.foldl (atF 2) 64,(pl.length:Int),f)):=by
 unfold LoopN.res
 refine runL_count (turn:=qcx.turn (lb,(),code,pl,64,0) f) (fun n=>((pl.take n).foldl (atF 2) 64,(n:Int),f)) (0,(pl.foldl (atF 2) 64,(pl.length:Int),f)) (n:=pl.length) (fun n hn=>?_) ?_ pl.length 0 (by omega) _ (Nat.lt_succ_self _)
 ·refine(val_yes (dec_true (show(n:Int)<lenI pl by simp only[lenI];omega))).trans ((val_yes (inR hn)).trans ((val_yes ?_).trans ?_))
  ·dsimp only
   rw[inR hn]
   cases ((List.getD pl (Int.toNat (n:Int)) (Ty.dflt tPlace)).1==(2:Int))<;>rfl
  ·have e1:(pl.take (n+1)).foldl (atF 2) 64=atF 2 ((pl.take n).foldl (atF 2) 64) (List.getD pl n (Ty.dflt tPlace)):=by
    rw[List.take_succ_eq_append_getElem hn,List.foldl_append,getD_in pl _ hn]
    rfl
   show some (TL.on (bif (List.getD pl (Int.toNat (n:Int)) (Ty.dflt tPlace)).1==2 then(List.getD pl (Int.toNat (n:Int)) (Ty.dflt tPlace)).2.1 else(pl.take n).foldl (atF 2) 64,w64 ((n:Int)+1),f))=_
   rw[w64_id (n:=(n:Int)+1) (by omega) (by omega),e1]
   rfl
 ·refine(val_no (dec_false (show ¬((pl.length:Nat):Int)<lenI pl by simp only[lenI];omega))).trans ?_
  dsimp only
  rw[List.take_length]
  rfl
def hereP (lb pc:Int) (p:tPlace.den):Bool:=decide (p.1<lb)&&(pc==p.2.1||pc==w64 (p.2.1+2))
def scanP (lb pc:Int):List tPlace.den→Int
 |[]=>-1
 |p::l=>bif hereP lb pc p then p.1 else scanP lb pc l
theorem where27 (lb pc:Int) (pl:List tPlace.den) (hp:pl.length≤21000):∃p4,LoopN.res qbn (lb,0,pl,pc,0) ()=some p4∧(bif way p4.1 then(-1:Int) else p4.2.1)=scanP lb pc pl:=by
 have key:∀(d i:Nat),i+d=pl.length→∀fuel,d<fuel→∃p4,runL (qbn.turn (lb,0,pl,pc,0) ()) fuel (0,(i:Int))=some p4∧(bif way p4.1 then(-1:Int) else p4.2.1)=scanP lb pc (pl.drop i):=by
  intro d
  induction d with
  |zero =>
   intro i hi fuel hf
   obtain⟨g,rfl⟩:∃g,fuel=g+1:=⟨fuel-1,by omega⟩
   refine⟨(0,(0,(i:Int))),runL_out (val_no (dec_false ?_)),?_⟩
   ·show ¬((i:Int)<lenI pl)
    simp only[lenI]
    omega
   ·have:i=pl.length:=by omega
    subst this
    rw[List.drop_length]
    rfl
  |succ d ih =>
   intro i hi fuel hf
   obtain⟨g,rfl⟩:∃g,fuel=g+1:=⟨fuel-1,by omega⟩
   have hlt:i<pl.length:=by omega
   have hg:List.getD pl (Int.toNat (i:Int)) (Ty.dflt tPlace)=pl[i]:=by rw[Int.toNat_natCast];exact getD_in pl _ hlt
   have hw:w64 ((i:Int)+1)=((i+1:Nat):Int):=by rw[w64_id (by omega) (by omega)];omega
   have hd:pl.drop i=pl[i]::pl.drop (i+1):=List.drop_eq_getElem_cons hlt
   have hx:∀c:Bool,(inRange (i:Int) (List.length pl)&&bif decide ((pl[i]).1<lb) then inRange (i:Int) (List.length pl)&&(c||inRange (i:Int) (List.length pl)) else true)=true:=fun c=>by
    rw[inR hlt]
    cases decide ((pl[i]).1<lb)<;>cases c<;>rfl
   have ht:(qbn.turn (lb,0,pl,pc,0) () (0,(i:Int))).val=some (bif hereP lb pc pl[i] then TL.out 1 ((pl[i]).1,(i:Int)) else TL.on (0,((i+1:Nat):Int))):=by
    refine(val_yes (dec_true ?_)).trans ((val_yes ?_).trans ?_)
    ·show(i:Int)<lenI pl
     simp only[lenI]
     omega
    ·dsimp only
     rw[hg]
     exact hx _
    ·dsimp only
     rw[hg,hw]
     cases hh:hereP lb pc pl[i]
     ·exact(val_no hh).trans rfl
     ·exact(val_yes hh).trans ((val_yes (inR hlt)).trans rfl)
   rw[hd]
   unfold scanP
   cases hh:hereP lb pc pl[i]
   ·rw[hh] at ht
    obtain⟨p4,q1,q2⟩:=ih (i+1) (by omega) g (by omega)
    exact⟨p4,(runL_on ht).trans q1,q2⟩
   ·rw[hh] at ht
    exact⟨_,runL_out ht,rfl⟩
 obtain⟨p4,h1,h2⟩:=key pl.length 0 (by omega) (pl.length+1) (by omega)
 exact⟨p4,h1,h2⟩
theorem where17 (x:shDens qZ.ss) (f:tFault.den) (yy:shDens qZ.hs):∀(n k:Nat) (y:MS),(k:Int)+(n:Int)=400→MachWf y→∀fuel,n<fuel →
  ∃k':Int,runL (qZ.turn x yy) fuel ((k:Int),f,y.1,y.2.1,y.2.2.1,y.2.2.2) =
   some (0,(k',f,(withRun y (goX y.1.1 y.1.2.1 f n k (runSof y)).2.2 (cgoX y.1.1 y.1.2.1 f n k (runSof y) y.2.2.1)).1,(withRun y (goX y.1.1 y.1.2.1 f n k (runSof y)).2.2 (cgoX y.1.1 y.1.2.1 f n k (runSof y) y.2.2.1)).2)):=by
 intro n
 induction n with
 |zero =>
  intro k y hk hw fuel hf
  cases fuel with
  |zero=>exact(Nat.not_lt_zero _ hf).elim
  |succ g =>
  have hlt:decide ((k:Int)<400)=false:=dec_false (by omega)
  refine⟨(k:Int),(runL_out (c:=0) (s':=((k:Int),f,y.1,y.2.1,y.2.2.1,y.2.2.2)) ?_).trans rfl⟩
  exact(val_no hlt).trans rfl
 |succ n ih =>
  intro k y hk hw fuel hf
  obtain⟨g,rfl⟩:∃g,fuel=g+1:=⟨fuel-1,by omega⟩
  have hlt:decide ((k:Int)<400)=true:=dec_true (by omega)
  cases hd:y.1.2.2.2.2.1 with
  |true =>
   refine⟨(k:Int),(runL_out (c:=0) (s':=((k:Int),f,y.1,y.2.1,y.2.2.1,y.2.2.2)) ?_).trans ?_⟩
   ·have hn:(!y.1.2.2.2.2.1)=false:=by rw[hd];rfl
    exact(val_yes hlt).trans ((val_no hn).trans rfl)
   ·have hg:goX y.1.1 y.1.2.1 f (n+1) k (runSof y)=([],0,runSof y):=by
     unfold goX
     rw[show(runSof y).2.1=true from hd]
     rfl
    have hcg:cgoX y.1.1 y.1.2.1 f (n+1) k (runSof y) y.2.2.1=y.2.2.1:=by
     unfold cgoX
     rw[show(runSof y).2.1=true from hd]
     rfl
    rw[hg,hcg]
    rfl
  |false =>
   have hG:∀g,qN ((),g) ((y.1.1,y.1.2.1,(),y.1.2.2.2),y.2)=true:=fun g=>decide_eq_true hw
   have hV:∀g,qg ((),g) ((y.1.1,y.1.2.1,(),y.1.2.2.2),y.2)=packX y.1.1 y.1.2.1 y.1.2.2.2.2.2.1 (cacheX y.1.2.1 y.1.2.2.2.1.2.1 y.2.2.1) (stepMX y.1.1 y.1.2.1 y.1.2.2.2.1 (y.2.1,y.2.2.2) g):=fun g=>by
    unfold qg
    rw[show(((y.1.1,y.1.2.1,(),y.1.2.2.2),y.2):MS).1.2.2.2.2.1=false from hd]
    rfl
   obtain⟨s1,s2,s3,s4,s5,s6⟩:=stepMX_wf y.1.1 y.1.2.1 y.1.2.2.2.1 (y.2.1,y.2.2.2) (nowX f k) hw.mem hw.regs hw.hand
   have hw':=step_MachWf hw (nowX f k)
   have hgo:(goX y.1.1 y.1.2.1 f (n+1) k (runSof y)).2.2=(goX y.1.1 y.1.2.1 f n (k+1) (stepMX y.1.1 y.1.2.1 y.1.2.2.2.1 (y.2.1,y.2.2.2) (nowX f k)).2).2.2:=by
    show(bif (runSof y).2.1 then _ else _:List tEvent.den×Int×RunS).2.2=_
    rw[show(runSof y).2.1=false from hd]
    rfl
   have hcg:cgoX y.1.1 y.1.2.1 f (n+1) k (runSof y) y.2.2.1=cgoX y.1.1 y.1.2.1 f n (k+1) (stepMX y.1.1 y.1.2.1 y.1.2.2.2.1 (y.2.1,y.2.2.2) (nowX f k)).2 (cacheX y.1.2.1 y.1.2.2.2.1.2.1 y.2.2.1):=by
    show(bif (runSof y).2.1 then _ else _)=_
    rw[show(runSof y).2.1=false from hd]
    rfl
   rw[hgo,hcg]
   have hw1:w64 ((k:Int)+1)=((k+1:Nat):Int):=by rw[w64_id (by omega) (by omega)];omega
   generalize hy':(packX y.1.1 y.1.2.1 y.1.2.2.2.2.2.1 (cacheX y.1.2.1 y.1.2.2.2.1.2.1 y.2.2.1) (stepMX y.1.1 y.1.2.1 y.1.2.2.2.1 (y.2.1,y.2.2.2) (nowX f k))).2=y' at hw'
   obtain⟨k',hk'⟩:=ih (k+1) y' (by omega) hw' g (by omega)
   have ht:(qZ.turn x yy ((k:Int),f,y.1,y.2.1,y.2.2.1,y.2.2.2)).val=some (TL.on (((k+1:Nat):Int),f,y'.1,y'.2.1,y'.2.2.1,y'.2.2.2)):=by
    refine(val_yes hlt).trans ((val_yes ?_).trans ?_)
    ·show(!y.1.2.2.2.2.1)=true
     rw[hd];rfl
    ·cases he:((k:Int)==(show Int from f.2.1))
     ·refine(val_no rfl).trans ((val_yes (hG (0,0,0,0,()))).trans ?_)
      have hnow:nowX f k=(0,0,0,0,()):=by
       unfold nowX
       have:(f.2.1==(k:Int))=false:=by
        rw[←he]
        exact Bool.eq_iff_iff.2 (by rw[beq_iff_eq,beq_iff_eq];exact eq_comm)
       rw[this]
       rfl
      rw[hnow] at hy'
      dsimp only
      rw[hV (0,0,0,0,()),hy',hw1]
      subst hy'
      rfl
     ·refine(val_yes rfl).trans ((val_yes (hG f)).trans ?_)
      have hnow:nowX f k=f:=by
       unfold nowX
       have:(f.2.1==(k:Int))=true:=by
        rw[←he]
        exact Bool.eq_iff_iff.2 (by rw[beq_iff_eq,beq_iff_eq];exact eq_comm)
       rw[this]
       rfl
      rw[hnow] at hy'
      dsimp only
      rw[hV f,hy',hw1]
      subst hy'
      rfl
   refine⟨k',(runL_on ht).trans (hk'.trans ?_)⟩
   subst hy'
   rfl
end Go.Av
end
section
namespace Go.Av
open Go
theorem where_run {it:List tItem.den} (hI:ItOk it) {k:Nat} (hk:k<it.length) (hl:isLab it 2 k=true) (hc:cntI it k<cntI it it.length) :
  ∃(ws:List Bool) (img:List UInt8) (hd:tHead.den),PrgOk hd img ⟨prgTo it it.length,0,64,img.length,cntI it k⟩ (adrI it 64 ws)∧(∀i,i≤it.length→adrI it 64 ws (cntI it i)=posI it 64 ws i) ∧
   ∀f,qp f=0→(goI ⟨prgTo it it.length,0,64,img.length,cntI it k⟩ f 400 0 (false,0,beginS 0 64 img.length img)).2.2.2.1≤(prgTo it it.length).length∧qP (it,f,3)=true ∧
    qu (it,f,3)=bif (goI ⟨prgTo it it.length,0,64,img.length,cntI it k⟩ f 400 0 (false,0,beginS 0 64 img.length img)).2.2.1 then
     scanP 3 (adrI it 64 ws (goI ⟨prgTo it it.length,0,64,img.length,cntI it k⟩ f 400 0 (false,0,beginS 0 64 img.length img)).2.2.2.1) (placesTo it 64 ws it.length) else -1:=by
 obtain⟨ws,code,hd,a1,hv,hhd,hfold,hpl,hGB,hVB,him,hadr⟩:=asm_built hI 0 64 (by omega) (by omega) (by omega) (by omega) hk hl hc
 have hhd2:((64,posI it 64 ws k,((0:Int),(0:Int),(64:Int),()),0,()):tHead.den)=hd:=hhd.symm
 generalize himg:headB hd++code=img at him hVB
 refine⟨ws,img,hd,him.prg,hadr,fun f hf=>?_⟩
 have hs:SzOk 0 64 img.length:=him.prg.sz
 have hfl:=hs.flash
 have hpar:qv img=(hd,0,()):=him.parse
 have hh:=him.head
 have hck:=mcheck_ok 0 64 img.length (by omega) (by omega) ⟨by omega,by omega⟩ (by omega) hs.flash
 have hck':qJ (((0:Int),(0:Int),(64:Int),()),lenI img)=0:=hck
 have hreg:qw (((0:Int),(0:Int),(64:Int),()),lenI img)=(regsX ((0:Int),(0:Int),(64:Int),()) (lenI img),0,()):=regs_val _ _ hck'
 obtain⟨g1,g2,g3⟩:=regsX_ok 0 0 64 (lenI img) hck' (by simp only[lenI];omega)
 have g4:∀q∈regsX ((0:Int),(0:Int),(64:Int),()) (lenI img),0≤q.2.1:=fun q hq=>(g1.2 q hq).2.1
 have hparf:=parse_facts img (by rw[him.parse];rfl)
 obtain⟨rs',hn',i',o',r',md',e',f1,f2,f3,f4,f5⟩:=hparf
 rw[him.parse] at e'
 have e':hd=(rs',hn',(i',o',r',()),md',()):=e'
 have hwf:MachWf (startX hd img []):=by
  rw[e']
  exact startX_wf rs' hn' i' o' r' md' img [] f1 f2 f3 f4
 have h27:2≤(rgsW 0 64 img.length).length:=by
  have:(rgsW 0 64 img.length).length=7:=rfl
  omega
 have hmw:=wOf_mw hs (newM_wf (rgsW 0 64 img.length) img [] g1 h27) rfl rfl
 have hlk:Lk ⟨prgTo it it.length,0,64,img.length,cntI it k⟩ (adrI it 64 ws) 0 (beginS 0 64 img.length img) (List.set (List.set [0,0,0,0,0,0,0,0,0,0,0,0,0,0,0] 13 537133056) 14 (qby 0),64,false,false,false,false,()) (newM (rgsW 0 64 img.length) img []) :=
  ⟨⟨rfl,fun _ _=>rfl⟩,him.zero.symm,rfl,hmw⟩
 obtain⟨l1,l2,l3,l4,l5⟩:=go_link him.prg f hf 400 0 false 0 (beginS 0 64 img.length img) _ _ (Nat.zero_le _) hlk
 have hst:goX hd img f 400 0 (runSof (startX hd img []))=goX hd img f 400 0 ((List.set (List.set [0,0,0,0,0,0,0,0,0,0,0,0,0,0,0] 13 537133056) 14 (qby 0),64,false,false,false,false,()),false,newM (rgsW 0 64 img.length) img []):=by
  have e:runSof (startX hd img [])=((List.set (List.set [0,0,0,0,0,0,0,0,0,0,0,0,0,0,0] 13 537133056) 14 (qby 0),64,false,false,false,false,()),false,newM (rgsW 0 64 img.length) img []):=by
   rw[hh]
   rfl
  rw[e]
 rw[←hst] at l3 l5
 have l6:(show Int from(goX hd img f 400 0 (runSof (startX hd img []))).2.2.1.2.1)=adrI it 64 ws (goI ⟨prgTo it it.length,0,64,img.length,cntI it k⟩ f 400 0 (false,0,beginS 0 64 img.length img)).2.2.2.1:=l5.pc
 generalize goI ⟨prgTo it it.length,0,64,img.length,cntI it k⟩ f 400 0 (false,0,beginS 0 64 img.length img)=q at *
 have hT:(qb6 (it,f,3)).val=some (bif q.2.2.1 then scanP 3 (adrI it 64 ws q.2.2.2.1) (placesTo it 64 ws it.length) else -1):=by
  unfold qb6
  dsimp only
  rw[hv]
  dsimp only
  refine(val_yes a1).trans ((val_no rfl).trans ((val_opt (where6 3 code (placesTo it 64 ws it.length) f hpl)).trans ?_))
  dsimp only
  rw[hfold 64,hhd2,hVB]
  dsimp only
  rw[hpar]
  dsimp only
  have hsz:hd.2.2.1=((0:Int),(0:Int),(64:Int),()):=by rw[hh];rfl
  rw[hsz,hreg]
  dsimp only
  refine(val_yes hGB).trans ((val_no rfl).trans ((val_no rfl).trans ((val_no rfl).trans ((val_no rfl).trans ((val_opt (r:=_) (res_8 img [] (regsX ((0:Int),(0:Int),(64:Int),()) (lenI img)) (by omega) g4 (by omega))).trans ?_)))))
  refine(val_yes ?_).trans ?_
  ·show roomOk ((sumL (regsX ((0:Int),(0:Int),(64:Int),()) (lenI img)):Nat):Int) 1=true
   simp only[roomOk,Bool.and_eq_true,decide_eq_true_eq]
   omega
  have hsp:nspan 0 ((sumL (regsX ((0:Int),(0:Int),(64:Int),()) (lenI img)):Nat):Int)=sumL (regsX ((0:Int),(0:Int),(64:Int),()) (lenI img)):=by simp[nspan]
  have e15:=res_15 img [] (regsX ((0:Int),(0:Int),(64:Int),()) (lenI img)) (zeros ((sumL (regsX ((0:Int),(0:Int),(64:Int),()) (lenI img)):Nat):Int) 0) (by omega) g4
  refine(val_opt (r:=_) (by dsimp only;rw[hsp];exact e15)).trans ?_
  have hw:(winsOf 0 (regsX ((0:Int),(0:Int),(64:Int),()) (lenI img))).length=7:=by rw[winsOf_length,g2]
  have hlen:w64 (w64 (Int.tdiv (lenI img) 2)+1)=((img.length / 2+1:Nat):Int):=by
   simp only[lenI] at f4 ⊢
   rw[Int.tdiv_eq_ediv_of_nonneg (by omega),w64_id (n:=((img.length:Nat):Int) / 2) (by omega) (by omega),w64_id (by omega) (by omega)]
   omega
  refine(val_yes ?_).trans ((val_yes ?_).trans ((val_yes ?_).trans ?_))
  ·show inRange 0 (winsOf 0 (regsX ((0:Int),(0:Int),(64:Int),()) (lenI img))).length=true
   rw[hw]
   rfl
  ·show inRange 1 (winsOf 0 (regsX ((0:Int),(0:Int),(64:Int),()) (lenI img))).length=true
   rw[hw]
   rfl
  ·rw[hlen]
   simp only[roomOk,Bool.and_eq_true,decide_eq_true_eq]
   omega
  ·rw[hlen]
   have hns:nspan 0 ((img.length / 2+1:Nat):Int)=img.length / 2+1:=by simp only[nspan];omega
   have hz2:zeros ((img.length / 2+1:Nat):Int) dfF=List.replicate (img.length / 2+1) dfF:=by unfold zeros;rw[Int.toNat_natCast]
   obtain⟨k',h17⟩:=where17 (3,(),placesTo it 64 ws it.length,(),0) f (f,(startX hd img []).1,(startX hd img []).2.1,(startX hd img []).2.2.1,(startX hd img []).2.2.2) 400 0 (startX hd img []) (by omega) hwf 401 (by omega)
   have h17:LoopN.res qZ (3,(),placesTo it 64 ws it.length,(),0) (f,(startX hd img []).1,(startX hd img []).2.1,(startX hd img []).2.2.1,(startX hd img []).2.2.2)=_:=h17
   refine(val_opt (r:=_) (Eq.trans ?_ h17)).trans ?_
   ·rw[hns]
    show LoopN.res qZ _ (f,(hd,img,(),(_,hd.1,_),false,(0,img.length / 2+1),()),_,zeros ((img.length / 2+1:Nat):Int) dfF,_)=_
    rw[hz2]
    have e1:startX hd img []=((hd,img,(),(List.set (List.set [0,0,0,0,0,0,0,0,0,0,0,0,0,0,0] 13 537133056) 14 (qby 0),hd.1,false,false,false,false,()),false,(0,img.length / 2+1),()),(newM (regsX hd.2.2.1 (lenI img)) img []).1,List.replicate (img.length / 2+1) dfF,(newM (regsX hd.2.2.1 (lenI img)) img []).2):=rfl
    rw[e1,hsz]
    rfl
   ·have hs1:(startX hd img []).1.1=hd:=rfl
    have hs2:(startX hd img []).1.2.1=img:=rfl
    rw[hs1,hs2]
    generalize hgo:goX hd img f 400 ((0:Nat):Int) (runSof (startX hd img []))=G
    have hgo:goX hd img f 400 0 (runSof (startX hd img []))=G:=hgo
    rw[hgo] at l3 l6
    have l3:G.2.2.2.1=q.2.2.1:=l3
    have l6:G.2.2.1.2.1=adrI it 64 ws q.2.2.2.1:=l6
    show(PO.ite (!G.2.2.2.1) _ (PO.opt (LoopN.res qbn (3,0,placesTo it 64 ws it.length,G.2.2.1.2.1,0) ()) _)).val=_
    rw[l3,l6]
    cases hdn:q.2.2.1
    ·exact(val_yes rfl).trans rfl
    ·obtain⟨p4,h27,e27⟩:=where27 3 (adrI it 64 ws q.2.2.2.1) (placesTo it 64 ws it.length) hpl
     refine(val_no rfl).trans ((val_opt h27).trans ?_)
     rw[cond_true,←e27]
     cases hwy:way p4.1
     ·exact(val_no rfl).trans rfl
     ·exact(val_yes rfl).trans rfl
 exact⟨l4,by unfold qP;rw[hT];rfl,by unfold qu PO.getO;rw[hT];rfl⟩
end Go.Av
end
section
namespace Go.Av
open Go
structure CLoop (E:Env) (p:Nat) (img n:Int):Prop where
 i0:E.P[p]?=some (.op (insI 3 1 0 0 0 0 0))
 i1:E.P[p+1]?=some (.op (insI 3 2 0 0 0 (lo false n) 0))
 i2:E.P[p+2]?=some (.op (insI 4 2 0 0 0 (hi false n) 0))
 i3:E.P[p+3]?=some (.op (insI 23 0 1 2 0 0 0))
 i4:E.P[p+4]?=some (.br 25 2 (p+19))
 i5:E.P[p+5]?=some (.op (insI 3 3 0 0 0 (lo false img) 0))
 i6:E.P[p+6]?=some (.op (insI 14 4 1 3 0 0 0))
 i7:E.P[p+7]?=some (.op (insI 3 5 0 0 0 0 0))
 i8:E.P[p+8]?=some (.op (insI 4 5 0 0 0 (hi false 537133056) 0))
 i9:E.P[p+9]?=some (.op (insI 18 5 4 0 16 0 0))
 i10:E.P[p+10]?=some (.op (insI 3 6 0 0 0 0 0))
 i11:E.P[p+11]?=some (.op (insI 4 6 0 0 0 (hi false 537001984) 0))
 i12:E.P[p+12]?=some (.op (insI 18 6 1 0 16 0 0))
 i13:E.P[p+13]?=some (.op (insI 19 0 5 0 0 0 0))
 i14:E.P[p+14]?=some (.op (insI 20 0 6 0 0 0 0))
 i15:E.P[p+15]?=some (.op (insI 3 3 0 0 0 4 0))
 i16:E.P[p+16]?=some (.op (insI 14 4 1 3 0 0 0))
 i17:E.P[p+17]?=some (.op (insI 5 1 0 4 0 0 0))
 i18:E.P[p+18]?=some (.br 24 0 (p+1))
 hb:p+19<E.h
structure VLoop (E:Env) (p:Nat) (img n:Int):Prop where
 i0:E.P[p]?=some (.op (insI 3 1 0 0 0 0 0))
 i1:E.P[p+1]?=some (.op (insI 3 2 0 0 0 (lo false n) 0))
 i2:E.P[p+2]?=some (.op (insI 4 2 0 0 0 (hi false n) 0))
 i3:E.P[p+3]?=some (.op (insI 23 0 1 2 0 0 0))
 i4:E.P[p+4]?=some (.br 25 2 (p+27))
 i5:E.P[p+5]?=some (.op (insI 3 3 0 0 0 (lo false img) 0))
 i6:E.P[p+6]?=some (.op (insI 14 4 1 3 0 0 0))
 i7:E.P[p+7]?=some (.op (insI 3 5 0 0 0 0 0))
 i8:E.P[p+8]?=some (.op (insI 4 5 0 0 0 (hi false 537133056) 0))
 i9:E.P[p+9]?=some (.op (insI 18 5 4 0 16 0 0))
 i10:E.P[p+10]?=some (.op (insI 3 7 0 0 0 0 0))
 i11:E.P[p+11]?=some (.op (insI 4 7 0 0 0 (hi false 537395200) 0))
 i12:E.P[p+12]?=some (.op (insI 18 7 4 0 16 0 0))
 i13:E.P[p+13]?=some (.op (insI 3 6 0 0 0 0 0))
 i14:E.P[p+14]?=some (.op (insI 4 6 0 0 0 (hi false 537001984) 0))
 i15:E.P[p+15]?=some (.op (insI 18 6 1 0 16 0 0))
 i16:E.P[p+16]?=some (.op (insI 19 0 6 0 0 0 0))
 i17:E.P[p+17]?=some (.op (insI 19 2 5 0 0 0 0))
 i18:E.P[p+18]?=some (.op (insI 23 0 0 2 0 0 0))
 i19:E.P[p+19]?=some (.br 25 1 E.h)
 i20:E.P[p+20]?=some (.op (insI 19 2 7 0 0 0 0))
 i21:E.P[p+21]?=some (.op (insI 23 0 0 2 0 0 0))
 i22:E.P[p+22]?=some (.br 25 1 E.h)
 i23:E.P[p+23]?=some (.op (insI 3 3 0 0 0 4 0))
 i24:E.P[p+24]?=some (.op (insI 14 4 1 3 0 0 0))
 i25:E.P[p+25]?=some (.op (insI 5 1 0 4 0 0 0))
 i26:E.P[p+26]?=some (.br 24 0 (p+1))
 hb:p+27<E.h
section
variable {E:Env} {p:Nat} {img n:Int}
def SameOut (W W':Nat→Nat):Prop:=∀a,a<537001984∨537067520≤a→W' a=W a
end
end Go.Av
end
section
namespace Go.Av
open Go
section
variable {E:Env} {p:Nat} {img n:Int}
end
end Go.Av
end
section
namespace Go.Av
open Go
section
variable {E:Env} {p:Nat} {img n:Int}
end
end Go.Av
end
section
namespace Go.Av
open Go
structure QEnd (E:Env) (q:Nat):Prop where
 e0:E.P[q]?=some (.op (insI 3 5 0 0 0 (lo false 537919488) 0))
 e1:E.P[q+1]?=some (.op (insI 4 5 0 0 0 (hi false 537919488) 0))
 e2:E.P[q+2]?=some (.op (insI 3 0 0 0 0 (lo false 3235799053) 0))
 e3:E.P[q+3]?=some (.op (insI 4 0 0 0 0 (hi false 3235799053) 0))
 e4:E.P[q+4]?=some (.op (insI 20 0 5 0 0 0 0))
 e5:E.P[q+5]?=some (.op (insI 2 0 0 0 0 0 0))
 hb:q+5<E.h
section
variable {I mo mr n:Nat} {b:Bool} (hs:SzOk (4*mo) (4*mr) n) (hI:I+mo≤mr)
include hs hI
end
end Go.Av
end
section
namespace Go.Av
open Go
def One (W W':Nat→Nat):Prop:=∃a,∀x,x≠a→W' x=W x
theorem One.refl (W:Nat→Nat):One W W:=⟨0,fun _ _=>rfl⟩
def ftR (E:Env) (stop:Nat→Bool) (n j:Nat):Bool:=notEnd E j&&(noStr E j&&(sucIn E (cfR E stop n) j&&(cfR E stop n (j+1)&&cfR E stop n E.h)))
theorem ftR_ok {E:Env} {stop:Nat→Bool} (hh:stop E.h=true) {n j:Nat} (h:ftR E stop n j=true) (sk:Bool) (s:IS):∃k j' s',k≤n∧goN E k (stepI E sk j s)=(k,0,false,j',s')∧stop j'=true∧s'.2.2=s.2.2:=by
 unfold ftR at h
 simp only[Bool.and_eq_true] at h
 obtain⟨h1,hn,h2,h3,h4⟩:=h
 obtain⟨j1,s1,e,hc⟩:=step_part h1 h2 h3 h4 sk s
 have ho:=step_mem hn sk s
 rw[e] at ho ⊢
 obtain⟨k,j',s',b1,b2,b3,b4⟩:=cfR_ok hh n j1 s1 hc
 exact⟨k,j',s',b1,b2,b3,by rw[b4];exact ho⟩
theorem go_same {E:Env} {k c j j1 j2:Nat} {s s1 s2:IS} (h1:GoTo E k c j s j1 s1) {c':Nat} (h2:GoTo E k c' j s j2 s2):j1=j2∧s1=s2:=by
 unfold GoTo at h1 h2
 rw[h1] at h2
 injection h2 with _ h2
 injection h2 with _ h2
 injection h2 with _ h2
 injection h2 with h3 h4
 exact⟨h3,h4⟩
end Go.Av
end
