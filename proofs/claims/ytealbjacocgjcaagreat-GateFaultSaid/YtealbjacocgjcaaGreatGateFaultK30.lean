/- Texts of the proof, one behind the other. -/
import Derived.Test.YtealbjacocgjcaaGreatGateFaultK29
import Derived.Test.YtealbjacocgjcaaGreatGateFaultK28
import Derived.Test.YtealbjacocgjcaaGreatGateFaultK26
import Derived.Test.YtealbjacocgjcaaGreatGateFaultK25
section
namespace Go.Av
open Go
end Go.Av
namespace Go.Av
open Go
abbrev ql (it:List qk.den) (i:Nat):qk.den:=List.getD it i (Ty.dflt qk)
def wd (ws:List Bool) (i:Nat):Bool:=List.getD ws i false
def qfD (j:qk.den) (w:Bool):Int:=bif j.1==0 then qci j.2.2.1 else bif j.1==2 then(bif w then 4 else 2) else 0
theorem qxS (x:qA.den) (n:Int) (h:qci x=n):0≤n∧n≤4:=by
 subst h
 unfold qci
 cases (qf x != 0)<;>cases qbR x.1 x.2.2.2.2.2.2.2.1<;>exact⟨by decide,by decide⟩
theorem qwK (j:qk.den) (w:Bool):0≤qfD j w∧qfD j w≤4:=by
 unfold qfD
 cases (j.1==(0:Int))
 ·cases (j.1==(2:Int))<;>cases w<;>simp
 ·exact qxS j.2.2.1 _ rfl
def qbe (it:List qk.den) (b:Int) (ws:List Bool):Nat→Int
 |0=>b
 |i+1=>qbe it b ws i+qfD (ql it i) (wd ws i)
theorem qhx (it:List qk.den) (b:Int) (ws:List Bool):∀i:Nat,b≤qbe it b ws i∧qbe it b ws i≤b+4*(i:Int)
 |0=>⟨by simp[qbe],by simp[qbe]⟩
 |i+1=>by
  obtain⟨h1,h2⟩:=qhx it b ws i
  obtain⟨h3,h4⟩:=qwK (ql it i) (wd ws i)
  simp only[qbe]
  omega
def qj6 (it:List qk.den) (b:Int) (ws:List Bool) (n:Nat):List Int:=(List.range n).map (qbe it b ws)
theorem qvb (it:List qk.den) (b:Int) (ws:List Bool) (n:Nat):(qj6 it b ws n).length=n:=by simp[qj6]
theorem qyp (it:List qk.den) (b:Int) (ws:List Bool) (n:Nat):qj6 it b ws n++[qbe it b ws n]=qj6 it b ws (n+1):=by simp[qj6,List.range_succ]
def qgl (it:List qk.den) (b:Int) (ws:List Bool):List Int:=qj6 it b ws (List.length it+1)
theorem qH4 (ws:List Bool) (i:Nat):(qlf (ws,(i:Int))).val=some (wd ws i):=by
 by_cases h:i<ws.length
 ·have h1:decide ((i:Int)<qi ws)=true:=qK (by simp only[qi];omega)
  refine(qe ?_).trans ?_
  ·show(bif decide ((i:Int)<qi ws) then inRange (i:Int) (List.length ws) else true)=true
   rw[h1]
   exact inR h
  ·show some (decide ((i:Int)<qi ws)&&List.getD ws (Int.toNat (i:Int)) false)=some (wd ws i)
   rw[h1]
   rfl
 ·have h1:decide ((i:Int)<qi ws)=false:=qC (by simp only[qi];omega)
  refine(qe ?_).trans ?_
  ·show(bif decide ((i:Int)<qi ws) then inRange (i:Int) (List.length ws) else true)=true
   rw[h1]
   rfl
  ·show some (decide ((i:Int)<qi ws)&&List.getD ws (Int.toNat (i:Int)) false)=some (wd ws i)
   have hw:wd ws i=false:=by
    unfold wd
    rw[List.getD_eq_getElem?_getD,List.getElem?_eq_none (by omega)]
    rfl
   rw[h1,hw]
   rfl
theorem qH0 (ws:List Bool) (i:Nat):qhR (ws,(i:Int))=true∧qhQ (ws,(i:Int))=wd ws i:=by
 have h:=qH4 ws i
 exact⟨by unfold qhR;rw[h];rfl,by unfold qhQ PO.qH;rw[h];rfl⟩
section
variable (it:List qk.den) (b:Int) (ws:List Bool) (hn:it.length≤21000) (hb:0≤b∧b≤262144)
include hn hb
omit hb in
theorem qNL {k:Nat} (hk:k≤it.length):Nat.ble ((List.length (qj6 it b ws k)+1)*8) 140737488355328=true:=by
 refine Nat.ble_eq_true_of_le ?_
 rw[qvb]
 omega
theorem qMh:(qqc (it,b,ws)).val=some (qgl it b ws):=by
 have hl:LoopN.res qmx (b,ws,[],it,qi it,0) ()=some (0,qbe it b ws it.length,qj6 it b ws it.length,(it.length:Int)):=by
  unfold LoopN.res
  refine qdJ (turn:=qmx.turn (b,ws,[],it,qi it,0) ()) (fun k=>(qbe it b ws k,qj6 it b ws k,(k:Int))) (0,(qbe it b ws it.length,qj6 it b ws it.length,(it.length:Int))) (n:=it.length) (fun k hk=>?_) ?_ it.length 0 (by omega) _ (Nat.lt_succ_self _)
  ·obtain⟨h1,h2⟩:=qH0 ws k
   have h3:=qhx it b ws k
   have h4:=qxS (ql it k).2.2.1 _ rfl
   refine(qe (qK (show(k:Int)<qi it by simp only[qi];omega))).trans ((qe (inR hk)).trans ((qe (qNL it b ws hn (Nat.le_of_lt hk))).trans ((qe ?_).trans ?_)))
   ·show((ql it k).1==0||bif (ql it k).1==2 then qhR (ws,(k:Int)) else true)=true
    rw[h1]
    cases ((ql it k).1==(0:Int))<;>cases ((ql it k).1==(2:Int))<;>rfl
   ·show some (TL.on (bif (ql it k).1==0 then w64 (qbe it b ws k+qci (ql it k).2.2.1) else bif (ql it k).1==2&&qhQ (ws,(k:Int)) then w64 (qbe it b ws k+4) else bif (ql it k).1==2 then w64 (qbe it b ws k+2) else qbe it b ws k,qj6 it b ws k++[qbe it b ws k],w64 ((k:Int)+1)))=some (TL.on (qbe it b ws (k+1),qj6 it b ws (k+1),((k+1:Nat):Int)))
    rw[h2,qu (n:=(k:Int)+1) (by omega) (by omega),qyp,qu (n:=qbe it b ws k+4) (by omega) (by omega),qu (n:=qbe it b ws k+2) (by omega) (by omega),qu (n:=qbe it b ws k+qci (ql it k).2.2.1) (by omega) (by omega)]
    have e:(bif (ql it k).1==0 then qbe it b ws k+qci (ql it k).2.2.1 else bif (ql it k).1==2&&wd ws k then qbe it b ws k+4 else bif (ql it k).1==2 then qbe it b ws k+2 else qbe it b ws k)=qbe it b ws (k+1):=by
     show _=qbe it b ws k+qfD (ql it k) (wd ws k)
     unfold qfD
     cases ((ql it k).1==(0:Int))<;>cases ((ql it k).1==(2:Int))<;>cases wd ws k<;>simp
    rw[e]
    rfl
  ·exact(qB (qC (show ¬((it.length:Nat):Int)<qi it by simp only[qi];omega))).trans rfl
 refine(qe ?_).trans ((qcP hl).trans ((qe (qNL it b ws hn (Nat.le_refl _))).trans ?_))
 ·show qgh (w64 (qi it+1)) 8=true
  rw[qu (by simp only[qi];omega) (by simp only[qi];omega)]
  simp only[qgh,qi]
  simp
  omega
 ·show some (qj6 it b ws it.length++[qbe it b ws it.length])=_
  rw[qyp]
  rfl
theorem qw1:qjH (it,b,ws)=true∧qie (it,b,ws)=qgl it b ws:=by
 have h:=qMh it b ws hn hb
 exact⟨by unfold qjH;rw[h];rfl,by unfold qie PO.qH;rw[h];rfl⟩
end
end Go.Av
namespace Go.Av
open Go
def q7 (p:Nat→Bool):Nat→Option Nat
 |0=>none
 |n+1=>match q7 p n with
  |some j=>some j
  |none=>bif p n then some n else none
theorem qcX {p:Nat→Bool}:∀{n k:Nat},q7 p n=some k→k<n∧p k=true∧∀i,i<k→p i=false
 |0,_,h=>by cases h
 |n+1,k,h=>by
  simp only[q7] at h
  cases e:q7 p n with
  |some j =>
   rw[e] at h
   cases h
   obtain⟨h1,h2⟩:=qcX e
   exact⟨by omega,h2⟩
  |none =>
   rw[e] at h
   cases hp:p n with
   |false=>rw[hp] at h;cases h
   |true =>
    rw[hp] at h
    cases h
    refine⟨Nat.lt_succ_self _,hp,fun i hi=>?_⟩
    exact qdB e i hi
 where qdB {p:Nat→Bool}:∀{n:Nat},q7 p n=none→∀i,i<n→p i=false
 |0,_,_,h=>absurd h (Nat.not_lt_zero _)
 |n+1,h,i,hi=>by
  simp only[q7] at h
  cases e:q7 p n with
  |some j=>rw[e] at h;cases h
  |none =>
   rw[e] at h
   cases hp:p n with
   |true=>rw[hp] at h;cases h
   |false =>
    rcases Nat.lt_or_ge i n with h' |h'
    ·exact qdB e i h'
    ·rw[show i=n by omega];exact hp
theorem qdB {p:Nat→Bool} {n:Nat} (h:q7 p n=none):∀i,i<n→p i=false:=qcX.qdB h
theorem qtJ {σ:Type} {turn:σ→PO (TL σ)} (st:Nat→σ) (p:Nat→Bool) (n:Nat) (e:Nat→Nat×σ) (r:Nat×σ)
  (hon:∀i,i<n→(∀j,j<i→p j=false)→p i=false→(turn (st i)).val=some (.on (st (i+1))))
  (hbad:∀i,i<n→(∀j,j<i→p j=false)→p i=true→(turn (st i)).val=some (.out (e i).1 (e i).2))
  (hend:(∀j,j<n→p j=false)→(turn (st n)).val=some (.out r.1 r.2)) (f:Nat) (hf:n<f) :
  qeK turn f (st 0)=some (match q7 p n with
   |some k=>e k
   |none=>r):=by
 cases h:q7 p n with
 |some k =>
  obtain⟨h1,h2,h3⟩:=qcX h
  exact qdJ st (e k) (n:=k) (fun i hi=>hon i (by omega) (fun j hj=>h3 j (by omega)) (h3 i hi)) (hbad k h1 h3 h2) k 0 (by omega) f (by omega)
 |none =>
  have h3:=qdB h
  exact qdJ st r (n:=n) (fun i hi=>hon i hi (fun j hj=>h3 j (by omega)) (h3 i hi)) (hend h3) n 0 (by omega) f hf
theorem qAv (l:Int) (k v:Int):∀m:List (Int×Int),qk8 (qna m k v) l=bif l==k then some v else qk8 m l
 |[]=>by simp only[qna,qk8]
 |(j,u)::m=>by
  simp only[qna]
  cases hk:(k==j)
  ·simp only[cond_false,qk8]
   rw[qAv l k v m]
   cases hl:(l==j)
   ·rfl
   ·cases hlk:(l==k)
    ·rfl
    ·have h1:l=j:=by simpa using hl
     have h2:l=k:=by simpa using hlk
     rw[←h1,←h2] at hk
     simp at hk
  ·have h1:k=j:=by simpa using hk
   subst h1
   simp only[cond_true,qk8]
   cases (l==k)<;>rfl
def qcq (it:List qk.den) (l:Int) (i:Nat):Bool:=(ql it i).1==1&&(ql it i).2.1==l
def qgs (it:List qk.den) (i:Nat):Bool:=(ql it i).1==1&&(q7 (qcq it (ql it i).2.1) i).isSome
def qbm (it:List qk.den):Nat→List (Int×Int)
 |0=>[]
 |k+1=>bif (ql it k).1==1 then qna (qbm it k) (ql it k).2.1 (k:Int) else qbm it k
theorem qtj (it:List qk.den) (l:Int):∀n:Nat,(∀i,i<n→qgs it i=false)→qk8 (qbm it n) l=(q7 (qcq it l) n).map fun k:Nat=>(k:Int)
 |0,_=>rfl
 |n+1,h=>by
  have ih:=qtj it l n (fun i hi=>h i (by omega))
  have hd:=h n (Nat.lt_succ_self n)
  simp only[qbm,q7]
  unfold qgs at hd
  cases h1:((ql it n).1==(1:Int))
  ·have hl:qcq it l n=false:=by unfold qcq;rw[h1];rfl
   rw[hl,cond_false,ih]
   cases q7 (qcq it l) n<;>rfl
  ·rw[h1,Bool.true_and] at hd
   rw[cond_true,qAv]
   cases h2:(l==(ql it n).2.1)
   ·have hl:qcq it l n=false:=by
     unfold qcq
     have:((ql it n).2.1==l)=false:=by
      rw[beq_eq_false_iff_ne] at h2 ⊢
      exact fun e=>h2 e.symm
     rw[this,Bool.and_false]
    rw[hl,cond_false,ih]
    cases q7 (qcq it l) n<;>rfl
   ·have e:l=(ql it n).2.1:=by simpa using h2
    subst e
    have hl:qcq it (ql it n).2.1 n=true:=by
     unfold qcq
     rw[h1]
     simp
    cases hf:q7 (qcq it (ql it n).2.1) n with
    |some j=>rw[hf] at hd;cases hd
    |none=>rw[hl];rfl
end Go.Av
namespace Go.Av
open Go
def qor (it:List qk.den) (i:Nat):Bool:=!qfi (ql it i)
def qjd (it:List qk.den) (i:Nat):Bool:=(ql it i).1==0&&qf (ql it i).2.2.1 != 0
def qfX (it:List qk.den) (i:Nat):Bool:=(ql it i).1==2&&(q7 (qcq it (ql it i).2.1) it.length).isNone
def qmf (it:List qk.den):List Bool:=List.replicate it.length true
def qns (b:Int):Bool:=decide (b<0)||(decide (b > 262144)||Int.tmod b 2 != 0)
def qhX (it:List qk.den) (b:Int):Int:=bif qns b then 2 else match q7 (qor it) it.length with
 |some _=>2
 |none=>match q7 (qjd it) it.length with
  |some k=>qf (ql it k).2.2.1
  |none=>match q7 (qgs it) it.length with
   |some _=>13
   |none=>match q7 (qfX it) it.length with
    |some _=>12
    |none=>bif decide (qbe it 0 (qmf it) it.length > 262144) then 5 else 0
section
variable (it:List qk.den) (hn:it.length≤21000)
include hn
end
end Go.Av
namespace Go.Av
open Go
section
variable (it:List qk.den) (b:Int) (w:(Nat×Nat)×Unit) (zs:List Bool) (hn:it.length≤21000)
include hn
def qtw (it:List qk.den):Int:=match q7 (qor it) it.length with
 |some _=>2
 |none=>match q7 (qjd it) it.length with
  |some k=>qf (ql it k).2.2.1
  |none=>0
def qpJ (it:List qk.den):Int:=match q7 (qgs it) it.length with
 |some _=>13
 |none=>match q7 (qfX it) it.length with
  |some _=>12
  |none=>0
theorem qQc (m:List (Int×Int)):LoopN.res qeG ((),0,it,qi it,0) ((it,b,(),w),m,zs)=some (match q7 (qor it) it.length with
  |some k=>(1,(2,(k:Int),(it,b,(),w),m,zs))
  |none=>(0,(0,(it.length:Int),(it,b,(),w),m,zs))):=by
 unfold LoopN.res
 refine qtJ (turn:=qeG.turn ((),0,it,qi it,0) ((it,b,(),w),m,zs)) (fun i=>((0:Int),(i:Int),(it,b,(),w),m,zs)) (qor it) it.length (fun k=>(1,(2,(k:Int),(it,b,(),w),m,zs))) (0,(0,(it.length:Int),(it,b,(),w),m,zs)) (fun i hi _ hp=>?_) (fun i hi _ hp=>?_) (fun _=>?_) _ (Nat.lt_succ_self _)
 ·refine(qe (qK (show(i:Int)<qi it by simp only[qi];omega))).trans ((qe (inR hi)).trans ((qB hp).trans ?_))
  dsimp only
  rw[qu (n:=(i:Int)+1) (by omega) (by omega)]
  rfl
 ·exact(qe (qK (show(i:Int)<qi it by simp only[qi];omega))).trans ((qe (inR hi)).trans ((qe hp).trans rfl))
 ·exact(qB (qC (show ¬((it.length:Nat):Int)<qi it by simp only[qi];omega))).trans rfl
theorem qP9:LoopN.res qey (0,it,qi it,0) ()=some (match q7 (qjd it) it.length with
  |some k=>(1,(qf (ql it k).2.2.1,(k:Int)))
  |none=>(0,(0,(it.length:Int)))):=by
 unfold LoopN.res
 refine qtJ (turn:=qey.turn (0,it,qi it,0) ()) (fun i=>((0:Int),(i:Int))) (qjd it) it.length (fun k=>(1,(qf (ql it k).2.2.1,(k:Int)))) (0,(0,(it.length:Int))) (fun i hi _ hp=>?_) (fun i hi _ hp=>?_) (fun _=>?_) _ (Nat.lt_succ_self _)
 ·refine(qe (qK (show(i:Int)<qi it by simp only[qi];omega))).trans ((qe (inR hi)).trans ?_)
  unfold qjd at hp
  cases h0:((ql it i).1==(0:Int))
  ·refine(qe (show((ql it i).1 != (0:Int))=true by unfold bne;rw[h0];rfl)).trans ?_
   dsimp only
   rw[qu (n:=(i:Int)+1) (by omega) (by omega)]
   rfl
  ·rw[h0,Bool.true_and] at hp
   refine(qB (show((ql it i).1 != (0:Int))=false by unfold bne;rw[h0];rfl)).trans ((qB hp).trans ?_)
   dsimp only
   rw[qu (n:=(i:Int)+1) (by omega) (by omega)]
   rfl
 ·unfold qjd at hp
  rw[Bool.and_eq_true] at hp
  exact(qe (qK (show(i:Int)<qi it by simp only[qi];omega))).trans ((qe (inR hi)).trans ((qB (show((ql it i).1 != (0:Int))=false by unfold bne;rw[hp.1];rfl)).trans ((qe hp.2).trans rfl)))
 ·exact(qB (qC (show ¬((it.length:Nat):Int)<qi it by simp only[qi];omega))).trans rfl
theorem qM8 (m:List (Int×Int)):qdZ () ((it,b,(),w),m,zs)=true∧qa () ((it,b,(),w),m,zs)=(qtw it,(it,b,(),w),m,zs):=by
 have h:(qfo () ((it,b,(),w),m,zs)).val=some (qtw it,(it,b,(),w),m,zs):=by
  refine(qcP (qQc it b w zs hn m)).trans ?_
  unfold qtw
  cases q7 (qor it) it.length with
  |some k=>rfl
  |none =>
   refine(qe rfl).trans ((qcP (qP9 it hn)).trans ?_)
   cases q7 (qjd it) it.length with
   |some k=>rfl
   |none=>rfl
 exact⟨by unfold qdZ;rw[h];rfl,by unfold qa PO.qH;rw[h];rfl⟩
theorem qQs:LoopN.res qeE ((),0,it,qi it,0) ((it,b,(),w),[],zs)=some (match q7 (qgs it) it.length with
  |some k=>(1,(13,(k:Int),(it,b,(),w),qbm it k,zs))
  |none=>(0,(0,(it.length:Int),(it,b,(),w),qbm it it.length,zs))):=by
 unfold LoopN.res
 refine qtJ (turn:=qeE.turn ((),0,it,qi it,0) ((it,b,(),w),[],zs)) (fun i=>((0:Int),(i:Int),(it,b,(),w),qbm it i,zs)) (qgs it) it.length (fun k=>(1,(13,(k:Int),(it,b,(),w),qbm it k,zs))) (0,(0,(it.length:Int),(it,b,(),w),qbm it it.length,zs)) (fun i hi hb hp=>?_) (fun i hi hb hp=>?_) (fun _=>?_) _ (Nat.lt_succ_self _)
 ·refine(qe (qK (show(i:Int)<qi it by simp only[qi];omega))).trans ((qe (inR hi)).trans ?_)
  unfold qgs at hp
  cases h1:((ql it i).1==(1:Int))
  ·refine(qe (show((ql it i).1 != (1:Int))=true by unfold bne;rw[h1];rfl)).trans ?_
   dsimp only
   have hm:qbm it (i+1)=qbm it i:=by simp only[qbm,h1,cond_false]
   rw[qu (n:=(i:Int)+1) (by omega) (by omega),hm]
   rfl
  ·rw[h1,Bool.true_and] at hp
   refine(qB (show((ql it i).1 != (1:Int))=false by unfold bne;rw[h1];rfl)).trans ((qB ?_).trans ?_)
   ·show qul (qbm it i) (ql it i).2.1=false
    unfold qul
    rw[qtj it _ i hb,Option.isSome_map]
    exact hp
   ·dsimp only
    have hm:qbm it (i+1)=qna (qbm it i) (ql it i).2.1 (i:Int):=by simp only[qbm,h1,cond_true]
    rw[qu (n:=(i:Int)+1) (by omega) (by omega),hm]
    rfl
 ·unfold qgs at hp
  rw[Bool.and_eq_true] at hp
  refine(qe (qK (show(i:Int)<qi it by simp only[qi];omega))).trans ((qe (inR hi)).trans ((qB (show((ql it i).1 != (1:Int))=false by unfold bne;rw[hp.1];rfl)).trans ((qe ?_).trans rfl)))
  show qul (qbm it i) (ql it i).2.1=true
  unfold qul
  rw[qtj it _ i hb,Option.isSome_map]
  exact hp.2
 ·exact(qB (qC (show ¬((it.length:Nat):Int)<qi it by simp only[qi];omega))).trans rfl
theorem qO9 (hd:∀i,i<it.length→qgs it i=false):LoopN.res qd4 ((),0,it,qi it,0) ((it,b,(),w),qbm it it.length,zs)=some (match q7 (qfX it) it.length with
  |some k=>(1,(12,(k:Int),(it,b,(),w),qbm it it.length,zs))
  |none=>(0,(0,(it.length:Int),(it,b,(),w),qbm it it.length,zs))):=by
 unfold LoopN.res
 have ht:∀i,((ql it i).1==2&&!qul (qbm it it.length) (ql it i).2.1)=qfX it i:=fun i=>by
  unfold qfX qul
  rw[qtj it _ it.length hd,Option.isSome_map]
  cases q7 (qcq it (ql it i).2.1) it.length<;>rfl
 refine qtJ (turn:=qd4.turn ((),0,it,qi it,0) ((it,b,(),w),qbm it it.length,zs)) (fun i=>((0:Int),(i:Int),(it,b,(),w),qbm it it.length,zs)) (qfX it) it.length (fun k=>(1,(12,(k:Int),(it,b,(),w),qbm it it.length,zs))) (0,(0,(it.length:Int),(it,b,(),w),qbm it it.length,zs)) (fun i hi _ hp=>?_) (fun i hi _ hp=>?_) (fun _=>?_) _ (Nat.lt_succ_self _)
 ·refine(qe (qK (show(i:Int)<qi it by simp only[qi];omega))).trans ((qe (inR hi)).trans ((qB ((ht i).trans hp)).trans ?_))
  dsimp only
  rw[qu (n:=(i:Int)+1) (by omega) (by omega)]
  rfl
 ·exact(qe (qK (show(i:Int)<qi it by simp only[qi];omega))).trans ((qe (inR hi)).trans ((qe ((ht i).trans hp)).trans rfl))
 ·exact(qB (qC (show ¬((it.length:Nat):Int)<qi it by simp only[qi];omega))).trans rfl
theorem qL6:∃m,qdQ () ((it,b,(),w),[],zs)=true∧qj () ((it,b,(),w),[],zs)=(qpJ it,(it,b,(),w),m,zs)∧(qpJ it=0→m=qbm it it.length):=by
 have h:∃m,(qfx () ((it,b,(),w),[],zs)).val=some (qpJ it,(it,b,(),w),m,zs)∧(qpJ it=0→m=qbm it it.length):=by
  have e2:=qQs it b w zs hn
  unfold qpJ
  cases hf:q7 (qgs it) it.length with
  |some k =>
   rw[hf] at e2
   exact⟨qbm it k,(qcP e2).trans rfl,fun h=>by cases h⟩
  |none =>
   rw[hf] at e2
   have e11:=qO9 it b w zs hn (qdB hf)
   refine⟨qbm it it.length,(qcP e2).trans ((qe rfl).trans ((qcP e11).trans ?_)),fun _=>rfl⟩
   cases q7 (qfX it) it.length with
   |some k=>rfl
   |none=>rfl
 obtain⟨m,h,hm⟩:=h
 exact⟨m,by unfold qdQ;rw[h];rfl,by unfold qj PO.qH;rw[h];rfl,hm⟩
theorem qPT (m:List (Int×Int)):LoopN.res qeH ((),(0,it.length),(it.length:Int),0) ((it,b,(),w),List.replicate it.length false,m,zs)=some (0,((it.length:Int),(it,b,(),w),List.replicate it.length true,m,zs)):=by
 unfold LoopN.res
 have hlen:(List.replicate it.length false).length=it.length:=by simp
 have key:=qdJ (turn:=qeH.turn ((),(0,it.length),(it.length:Int),0) ((it,b,(),w),List.replicate it.length false,m,zs)) (fun k=>((k:Int),(it,b,(),w),List.replicate k true++List.replicate (it.length-k) false,m,zs)) (0,((it.length:Int),(it,b,(),w),List.replicate it.length true,m,zs)) (n:=it.length) (fun k hk=>?_) ?_ it.length 0 (by omega) (List.length (List.replicate it.length false)+1) (by simp)
 ·exact key
 ·refine(qe (qK (show(k:Int)<(it.length:Int) by omega))).trans ((qe (inR hk)).trans ?_)
  dsimp only
  have hs:List.set (List.replicate k true++List.replicate (it.length-k) false) (qbl 0 (k:Int)) true=List.replicate (k+1) true++List.replicate (it.length-(k+1)) false:=by
   unfold qbl
   rw[Int.toNat_natCast,Nat.zero_add,List.set_append_right _ _ (by simp),List.length_replicate,Nat.sub_self]
   obtain⟨r,hr⟩:∃r,it.length-k=r+1:=⟨it.length-k-1,by omega⟩
   rw[hr,List.replicate_succ,List.set_cons_zero,show it.length-(k+1)=r by omega,List.replicate_succ',List.append_assoc]
   rfl
  rw[hs,qu (n:=(k:Int)+1) (by omega) (by omega)]
  rfl
 ·refine(qB (qC (show ¬((it.length:Nat):Int)<(it.length:Int) by omega))).trans ?_
  dsimp only
  rw[Nat.sub_self]
  simp
  rfl
theorem qMZ (m:List (Int×Int)):qdP () ((it,b,(),w),m,zs)=true∧qbg () ((it,b,(),w),m,zs)=(decide (qbe it 0 (qmf it) it.length > 262144),(it,b,(),w),m,zs):=by
 have e1:qc0 0 (qi it)=it.length:=by simp[qc0,qi]
 have e2:zeros (qi it) false=List.replicate it.length false:=by simp[zeros,qi]
 have e3:shown (List.replicate it.length true) (0,it.length)=qmf it:=by simp[shown,qmf]
 obtain⟨l1,l2⟩:=qw1 it 0 (qmf it) hn (by omega)
 have hlen:(qgl it 0 (qmf it)).length=it.length+1:=qvb _ _ _ _
 have hget:List.getD (qgl it 0 (qmf it)) it.length 0=qbe it 0 (qmf it) it.length:=by
  unfold qgl qj6
  rw[List.getD_eq_getElem?_getD,List.getElem?_map,List.getElem?_range (Nat.lt_succ_self _)]
  rfl
 have h:(qdX () ((it,b,(),w),m,zs)).val=some (decide (qbe it 0 (qmf it) it.length > 262144),(it,b,(),w),m,zs):=by
  unfold qdX
  dsimp only
  rw[e1,e2]
  refine(qe ?_).trans ((qcP (qPT it b w zs hn m)).trans ?_)
  ·simp only[qgh,qi]
   simp
   omega
  ·dsimp only
   rw[e3,l1,l2,hlen]
   refine(qe ?_).trans ?_
   ·rw[Bool.true_and]
    exact inR (Nat.lt_succ_self _)
   ·show some (decide (List.getD (qgl it 0 (qmf it)) (Int.toNat (it.length:Int)) 0 > 262144),(it,b,(),w),m,zs)=_
    rw[Int.toNat_natCast,hget]
 exact⟨by unfold qdP;rw[h];rfl,by unfold qbg PO.qH;rw[h];rfl⟩
theorem qJ1:∃m,qdR () ((it,b,(),w),[],zs)=true∧qdU () ((it,b,(),w),[],zs)=(qhX it b,(it,b,(),w),m,zs)∧(qhX it b=0→m=qbm it it.length):=by
 have h:∃m,(qdV () ((it,b,(),w),[],zs)).val=some (qhX it b,(it,b,(),w),m,zs)∧(qhX it b=0→m=qbm it it.length):=by
  obtain⟨i1,i2⟩:=qM8 it b w zs hn []
  obtain⟨m,n1,n2,n3⟩:=qL6 it b w zs hn
  obtain⟨g1,g2⟩:=qMZ it b w zs hn m
  unfold qdV
  dsimp only
  rw[i2]
  dsimp only
  rw[n2]
  dsimp only
  rw[g2]
  dsimp only
  have hbase:(decide (b<0)||(decide (b > 262144)||qR IntKind.i64 b 1 != 0))=qns b:=by
   unfold qns
   rw[qDD]
  cases hb:qns b
  ·have hc:qhX it b=bif qtw it != 0 then qtw it else bif qpJ it != 0 then qpJ it else bif decide (qbe it 0 (qmf it) it.length > 262144) then 5 else 0:=by
    unfold qhX qtw qpJ
    rw[hb,cond_false]
    cases q7 (qor it) it.length with
    |some k=>rfl
    |none =>
     cases hf:q7 (qjd it) it.length with
     |some k =>
      obtain⟨_,hk,_⟩:=qcX hf
      unfold qjd at hk
      rw[Bool.and_eq_true] at hk
      dsimp only
      rw[hk.2]
      rfl
     |none =>
      cases q7 (qgs it) it.length with
      |some k=>rfl
      |none =>
       cases q7 (qfX it) it.length with
       |some k=>rfl
       |none=>rfl
   rw[hc]
   cases hi:(qtw it != 0)
   ·cases hm:(qpJ it != 0)
    ·have hn0:qpJ it=0:=by simpa using hm
     refine⟨m,(qB (hbase.trans hb)).trans ((qe i1).trans ((qB rfl).trans ((qe n1).trans ((qB rfl).trans ((qe g1).trans ?_))))),fun _=>n3 hn0⟩
     cases hg:decide (qbe it 0 (qmf it) it.length > 262144)<;>rfl
    ·exact⟨m,(qB (hbase.trans hb)).trans ((qe i1).trans ((qB rfl).trans ((qe n1).trans ((qe rfl).trans rfl)))),fun h=>by
      rw[cond_false,cond_true] at h
      rw[h] at hm
      cases hm⟩
   ·exact⟨[],(qB (hbase.trans hb)).trans ((qe i1).trans ((qe rfl).trans rfl)),fun h=>by
     rw[cond_true] at h
     rw[h] at hi
     cases hi⟩
  ·have hc:qhX it b=2:=by
    unfold qhX
    rw[hb]
    rfl
   rw[hc]
   exact⟨[],(qe (hbase.trans hb)).trans rfl,fun h=>by cases h⟩
 obtain⟨m,h,hm⟩:=h
 exact⟨m,by unfold qdR;rw[h];rfl,by unfold qdU PO.qH;rw[h];rfl,hm⟩
end
end Go.Av
namespace Go.Av
open Go
def qsW:List Bool→Nat
 |[]=>0
 |x::l=>(bif x then 1 else 0)+qsW l
theorem qGs:∀l:List Bool,qsW l≤l.length
 |[]=>Nat.le_refl _
 |x::l=>by
  have:=qGs l
  simp only[qsW,List.length_cons]
  cases x<;>simp only[cond_true,cond_false]<;>omega
theorem qDf:∀(l:List Bool) (i:Nat),i<l.length→wd l i=false→qsW (l.set i true)=qsW l+1
 |[],_,h,_=>absurd h (Nat.not_lt_zero _)
 |x::l,0,_,h=>by
  have:x=false:=h
  subst this
  simp only[List.set_cons_zero,qsW,cond_true,cond_false]
  omega
 |x::l,i+1,h,hw=>by
  have h1:i<l.length:=by simpa using h
  have h2:wd l i=false:=hw
  simp only[List.set_cons_succ,qsW]
  rw[qDf l i h1 h2]
  omega
def tgt (it:List qk.den) (i:Nat):Nat:=(q7 (qcq it (ql it i).2.1) it.length).getD 0
def qjO (it:List qk.den) (b:Int) (ws:List Bool) (i:Nat):Int:=qbe it b ws (tgt it i)-qbe it b ws i-4
def qrq (it:List qk.den) (b:Int) (ws:List Bool) (i:Nat):Bool:=decide (qjO it b ws i<(qbP ((ql it i).2.2.1.1,false)).1)||decide (qjO it b ws i > (qbP ((ql it i).2.2.1.1,false)).2.1)
def qbr (it:List qk.den) (b:Int) (ws0:List Bool):Nat→Bool×List Bool
 |0=>(false,ws0)
 |i+1=>bif (ql it i).1 != 2||wd (qbr it b ws0 i).2 i then qbr it b ws0 i else bif qrq it b ws0 i then(true,(qbr it b ws0 i).2.set i true) else qbr it b ws0 i
theorem qxh (it:List qk.den) (b:Int) (ws0:List Bool):∀i,(qbr it b ws0 i).2.length=ws0.length
 |0=>rfl
 |i+1=>by
  have ih:=qxh it b ws0 i
  simp only[qbr]
  cases ((ql it i).1 != (2:Int)||wd (qbr it b ws0 i).2 i)
  ·cases qrq it b ws0 i
   ·exact ih
   ·simp only[cond_true,cond_false,List.length_set];exact ih
  ·exact ih
theorem qCk (it:List qk.den) (b:Int) (ws0:List Bool):∀i,i≤ws0.length→qsW ws0+(bif (qbr it b ws0 i).1 then 1 else 0)≤qsW (qbr it b ws0 i).2
 |0,_=>Nat.le_refl _
 |i+1,hi=>by
  have ih:=qCk it b ws0 i (by omega)
  have hl:=qxh it b ws0 i
  simp only[qbr]
  cases h1:((ql it i).1 != (2:Int)||wd (qbr it b ws0 i).2 i)
  ·cases qrq it b ws0 i
   ·exact ih
   ·rw[Bool.or_eq_false_iff] at h1
    simp only[cond_true,cond_false]
    rw[qDf _ i (by omega) h1.2]
    omega
  ·exact ih
theorem qu2 (it:List qk.den) (b:Int) (ws0:List Bool):∀i,(qbr it b ws0 i).1=false→(qbr it b ws0 i).2=ws0
 |0,_=>rfl
 |i+1,h=>by
  have ih:=qu2 it b ws0 i
  simp only[qbr] at h ⊢
  cases h1:((ql it i).1 != (2:Int)||wd (qbr it b ws0 i).2 i)<;>rw[h1] at h
  ·cases h2:qrq it b ws0 i<;>rw[h2] at h
   ·exact ih h
   ·cases h
  ·exact ih h
section
variable (it:List qk.den) (b:Int) (ws:List Bool) (hn:it.length≤21000) (hb:0≤b∧b≤262144) (hm:∀i,i<it.length→qfX it i=false)
include hn hb
omit hn hb in
theorem qGv:(qgl it b ws).length=it.length+1:=qvb _ _ _ _
omit hn hb in
theorem qzl {i:Nat} (hi:i≤it.length):List.getD (qgl it b ws) i 0=qbe it b ws i:=by
 unfold qgl qj6
 rw[List.getD_eq_getElem?_getD,List.getElem?_map,List.getElem?_range (Nat.lt_succ_of_le hi)]
 rfl
omit hb in
theorem qO7 {i k:Nat} (hi:i<it.length) (hk:k<it.length):w64 (w64 (qbe it b ws k-qbe it b ws i)-4)=qbe it b ws k-qbe it b ws i-4:=by
 have h1:=qhx it b ws i
 have h2:=qhx it b ws k
 rw[qu (n:=qbe it b ws k-qbe it b ws i) (by omega) (by omega),qu (by omega) (by omega)]
include hm
omit hn hb in
theorem qt6 {i:Nat} (hi:i<it.length) (h2:((ql it i).1 != (2:Int))=false):q7 (qcq it (ql it i).2.1) it.length=some (tgt it i)∧tgt it i<it.length:=by
 have h:=hm i hi
 unfold qfX at h
 have h2':((ql it i).1==(2:Int))=true:=by
  unfold bne at h2
  simpa using h2
 rw[h2',Bool.true_and] at h
 cases hf:q7 (qcq it (ql it i).2.1) it.length with
 |none=>rw[hf] at h;cases h
 |some k =>
  have:tgt it i=k:=by unfold tgt;rw[hf];rfl
  rw[this]
  exact⟨rfl,(qcX hf).1⟩
omit hb in
theorem qBg (hd:∀i,i<it.length→qgs it i=false) {i:Nat} (hi:i<it.length) (h2:((ql it i).1 != (2:Int))=false):qeW (it,qbm it it.length,qgl it b ws,(i:Int))=true∧qbu (it,qbm it it.length,qgl it b ws,(i:Int))=qjO it b ws i:=by
 obtain⟨t1,t2⟩:=qt6 it hm hi h2
 have hv:qsK (qbm it it.length) (ql it i).2.1=((tgt it i:Nat):Int):=by
  unfold qsK
  rw[qtj it _ it.length hd,t1]
  rfl
 constructor
 ·show(inRange (i:Int) (List.length it)&&(inRange (qsK (qbm it it.length) (ql it i).2.1) (List.length (qgl it b ws))&&inRange (i:Int) (List.length (qgl it b ws))))=true
  rw[hv,inR hi,qGv,inR (show i<it.length+1 by omega),inR (show tgt it i<it.length+1 by omega)]
  rfl
 ·show w64 (w64 (List.getD (qgl it b ws) (Int.toNat (qsK (qbm it it.length) (ql it i).2.1)) 0-List.getD (qgl it b ws) (Int.toNat (i:Int)) 0)-4)=_
  rw[hv,Int.toNat_natCast,Int.toNat_natCast,qzl it b ws (Nat.le_of_lt t2),qzl it b ws (Nat.le_of_lt hi),qO7 it b ws hn hi t2]
  rfl
end
end Go.Av
namespace Go.Av
open Go
section
variable (it:List qk.den) (b:Int) (ws:List Bool) (hn:it.length≤21000) (hb:0≤b∧b≤262144) (hm:∀i,i<it.length→qfX it i=false) (hw:ws.length=it.length)
include hn hm hw
omit hn hm hw in
theorem qQA (i:Nat):List.getD (qbr it b ws i).2 (qbl 0 (i:Int)) false=wd (qbr it b ws i).2 i:=by
 unfold qbl wd
 rw[Int.toNat_natCast,Nat.zero_add]
theorem qNf (hd:∀i,i<it.length→qgs it i=false):LoopN.res qeF ((),qgl it b ws,false,it,qi it,0) ((it,b,(),((0,it.length),())),qbm it it.length,ws) =
  some (0,((qbr it b ws it.length).1,(it.length:Int),(it,b,(),((0,it.length),())),qbm it it.length,(qbr it b ws it.length).2)):=by
 unfold LoopN.res
 refine qdJ (turn:=qeF.turn ((),qgl it b ws,false,it,qi it,0) ((it,b,(),((0,it.length),())),qbm it it.length,ws)) (fun i=>((qbr it b ws i).1,(i:Int),(it,b,(),((0,it.length),())),qbm it it.length,(qbr it b ws i).2)) (0,((qbr it b ws it.length).1,(it.length:Int),(it,b,(),((0,it.length),())),qbm it it.length,(qbr it b ws it.length).2)) (n:=it.length) (fun i hi=>?_) ?_ it.length 0 (by omega) _ (Nat.lt_succ_self _)
 ·refine(qe (qK (show(i:Int)<qi it by simp only[qi];omega))).trans ((qe (inR hi)).trans ((qe ?_).trans ?_))
  ·show((ql it i).1 != 2||inRange (i:Int) it.length)=true
   rw[inR hi,Bool.or_true]
  cases ht:((ql it i).1 != (2:Int)||wd (qbr it b ws i).2 i)
  ·have h2:=(Bool.or_eq_false_iff.1 ht).1
   obtain⟨o1,o2⟩:=qBg it b ws hn hm hd hi h2
   refine(qB (show((ql it i).1 != 2||List.getD (qbr it b ws i).2 (qbl 0 (i:Int)) false)=false by rw[qQA it b ws];exact ht)).trans ((qe o1).trans ?_)
   cases ho:qrq it b ws i
   ·refine(qB ?_).trans ?_
    ·show(decide (qbu (it,qbm it it.length,qgl it b ws,(i:Int))<(qbP ((ql it i).2.2.1.1,false)).1)||decide (qbu (it,qbm it it.length,qgl it b ws,(i:Int)) > (qbP ((ql it i).2.2.1.1,false)).2.1))=false
     rw[o2]
     exact ho
    ·have e:qbr it b ws (i+1)=qbr it b ws i:=by simp only[qbr,ht,ho,cond_false]
     dsimp only
     rw[e,qu (n:=(i:Int)+1) (by omega) (by omega)]
     rfl
   ·refine(qe ?_).trans ((qe (inR hi)).trans ?_)
    ·show(decide (qbu (it,qbm it it.length,qgl it b ws,(i:Int))<(qbP ((ql it i).2.2.1.1,false)).1)||decide (qbu (it,qbm it it.length,qgl it b ws,(i:Int)) > (qbP ((ql it i).2.2.1.1,false)).2.1))=true
     rw[o2]
     exact ho
    ·have e:qbr it b ws (i+1)=(true,(qbr it b ws i).2.set (qbl 0 (i:Int)) true):=by
      unfold qbl
      rw[Int.toNat_natCast,Nat.zero_add]
      simp only[qbr,ht,ho,cond_false,cond_true]
     dsimp only
     rw[e,qu (n:=(i:Int)+1) (by omega) (by omega)]
     rfl
  ·refine(qe (show((ql it i).1 != 2||List.getD (qbr it b ws i).2 (qbl 0 (i:Int)) false)=true by rw[qQA it b ws];exact ht)).trans ?_
   have e:qbr it b ws (i+1)=qbr it b ws i:=by simp only[qbr,ht,cond_true]
   dsimp only
   rw[e,qu (n:=(i:Int)+1) (by omega) (by omega)]
   rfl
 ·exact(qB (qC (show ¬((it.length:Nat):Int)<qi it by simp only[qi];omega))).trans rfl
include hb
theorem qAc (hd:∀i,i<it.length→qgs it i=false):qdW () ((it,b,(),((0,it.length),())),qbm it it.length,ws)=true ∧
  qV () ((it,b,(),((0,it.length),())),qbm it it.length,ws)=((qbr it b ws it.length).1,(it,b,(),((0,it.length),())),qbm it it.length,(qbr it b ws it.length).2):=by
 have e3:shown ws (0,it.length)=ws:=by simp[shown,←hw]
 obtain⟨l1,l2⟩:=qw1 it b ws hn hb
 have h:(qd0 () ((it,b,(),((0,it.length),())),qbm it it.length,ws)).val=some ((qbr it b ws it.length).1,(it,b,(),((0,it.length),())),qbm it it.length,(qbr it b ws it.length).2):=by
  unfold qd0
  dsimp only
  rw[e3,l2]
  exact(qe l1).trans ((qcP (qNf it b ws hn hm hw hd)).trans rfl)
 exact⟨by unfold qdW;rw[h];rfl,by unfold qV PO.qH;rw[h];rfl⟩
end
def qch (it:List qk.den) (b:Int):Nat→List Bool
 |0=>List.replicate it.length false
 |k+1=>(qbr it b (qch it b k) it.length).2
def qmr (it:List qk.den) (b:Int) (k:Nat):Bool:=(qbr it b (qch it b k) it.length).1
theorem qkE (it:List qk.den) (b:Int):∀k,(qch it b k).length=it.length
 |0=>by simp[qch]
 |k+1=>by
  simp only[qch]
  rw[qxh,qkE it b k]
theorem qwu (it:List qk.den) (b:Int):∀k,(∀j,j<k→qmr it b j=true)→k≤qsW (qch it b k)
 |0,_=>Nat.zero_le _
 |k+1,h=>by
  have ih:=qwu it b k (fun j hj=>h j (by omega))
  have h1:=h k (Nat.lt_succ_self k)
  have h2:=qCk it b (qch it b k) it.length (by rw[qkE];exact Nat.le_refl _)
  unfold qmr at h1
  rw[h1] at h2
  simp only[qch]
  simp only[cond_true] at h2
  omega
theorem qIG (it:List qk.den) (b:Int):∃K,K≤it.length∧(∀k,k<K→qmr it b k=true)∧qmr it b K=false:=by
 cases h:q7 (fun k=>!qmr it b k) (it.length+1) with
 |some K =>
  obtain⟨h1,h2,h3⟩:=qcX h
  exact⟨K,by omega,fun k hk=>by simpa using h3 k hk,by simpa using h2⟩
 |none =>
  have h1:=qwu it b (it.length+1) (fun j hj=>by simpa using qdB h j hj)
  have h2:=qGs (qch it b (it.length+1))
  rw[qkE] at h2
  omega
end Go.Av
namespace Go.Av
open Go
theorem qOS (x:qA.den) (v:List UInt8×Int×Unit) (h:(qcE x).val=some v):v.1.length≤4:=by
 unfold qcE at h
 cases h1:(qf x != (0:Int))
 ·replace h:=(qB h1).symm.trans h
  cases h2:qfb x
  ·replace h:=(qB h2).symm.trans h
   cases h
  ·replace h:=(qe h2).symm.trans h
   cases h3:(qb0 x).2.2.1
   ·replace h:=(qB h3).symm.trans h
    cases h
    exact(by decide:2≤4)
   ·replace h:=(qe h3).symm.trans h
    replace h:=(qe (show Nat.ble (List.length (qbZ (qb0 x).1)+List.length (qbZ (qb0 x).2.1)) 9223372036854775807=true from rfl)).symm.trans h
    cases h
    show(qbZ (qb0 x).1++qbZ (qb0 x).2.1).length≤4
    rw[List.length_append]
    exact Nat.le_refl 4
 ·replace h:=(qe h1).symm.trans h
  cases h
  exact Nat.zero_le _
def quB (x:qA.den):List UInt8:=(qcr x).1
theorem quc (x:qA.den):qgq x=true∧qnB x=true∧(qjr x).1=quB x∧(quB x).length≤4:=by
 obtain⟨op,rd,rn,rm,ra,imm,cond,w,u⟩:=x
 obtain⟨v,h1,h2⟩:=qMe op rd rn rm ra imm cond w
 have e1:qcr (op,rd,rn,rm,ra,imm,cond,w,())=v:=by unfold qcr PO.qH;rw[h1];rfl
 have e2:qjr (op,rd,rn,rm,ra,imm,cond,w,())=v:=by unfold qjr PO.qH;rw[h2];rfl
 refine⟨by unfold qgq;exact h1▸rfl,by unfold qnB;exact h2▸rfl,?_,?_⟩
 ·unfold quB
  exact congrArg Prod.fst (e2.trans e1.symm)
 ·unfold quB
  show(qcr (op,rd,rn,rm,ra,imm,cond,w,())).1.length≤4
  rw[e1]
  exact qOS _ v h1
def qe8 (it:List qk.den) (b:Int) (ws:List Bool) (i:Nat):qA.den:=bif (ql it i).1==2 then((ql it i).2.2.1.1,0,0,0,0,qjO it b ws i,(ql it i).2.2.1.2.2.2.2.2.2.1,wd ws i,()) else(ql it i).2.2.1
def qc4 (it:List qk.den) (b:Int) (ws:List Bool):Nat→List qij.den
 |0=>[]
 |i+1=>bif (ql it i).1==1 then qc4 it b ws i++[((ql it i).2.1,qbe it b ws i,())] else qc4 it b ws i
def qc9 (it:List qk.den) (b:Int) (ws:List Bool):Nat→List UInt8
 |0=>[]
 |i+1=>bif (ql it i).1==1 then qc9 it b ws i else qc9 it b ws i++quB (qe8 it b ws i)
theorem qtI (it:List qk.den) (b:Int) (ws:List Bool):∀i,(qc4 it b ws i).length≤i
 |0=>Nat.le_refl _
 |i+1=>by
  have ih:=qtI it b ws i
  simp only[qc4]
  cases ((ql it i).1==(1:Int))
  ·simp only[cond_false];omega
  ·simp only[cond_true,List.length_append,List.length_cons,List.length_nil];omega
theorem qva (it:List qk.den) (b:Int) (ws:List Bool):∀i,(qc9 it b ws i).length≤4*i
 |0=>Nat.le_refl _
 |i+1=>by
  have ih:=qva it b ws i
  have h:=(quc (qe8 it b ws i)).2.2.2
  simp only[qc9]
  cases ((ql it i).1==(1:Int))
  ·simp only[cond_false,List.length_append];omega
  ·simp only[cond_true];omega
section
variable (it:List qk.den) (b:Int) (ws:List Bool) (hn:it.length≤21000) (hm:∀i,i<it.length→qfX it i=false) (hw:ws.length=it.length)
include hn hm hw
theorem qMl (hd:∀i,i<it.length→qgs it i=false):LoopN.res qhb ((),qgl it b ws,(),[],it,qi it,0) ((it,b,(),((0,it.length),())),((),[],()),qbm it it.length,ws) =
  some (0,(qc4 it b ws it.length,(it.length:Int),(it,b,(),((0,it.length),())),((),qc9 it b ws it.length,()),qbm it it.length,ws)):=by
 unfold LoopN.res
 have hfit:∀i,i<it.length→∀x,qfj (qc9 it b ws i) (qcr x).1=true:=fun i hi x=>by
  have h1:=qva it b ws i
  have h2:(qcr x).1.length≤4:=(quc x).2.2.2
  refine Nat.ble_eq_true_of_le ?_
  omega
 refine qdJ (turn:=qhb.turn ((),qgl it b ws,(),[],it,qi it,0) ((it,b,(),((0,it.length),())),((),[],()),qbm it it.length,ws)) (fun i=>(qc4 it b ws i,(i:Int),(it,b,(),((0,it.length),())),((),qc9 it b ws i,()),qbm it it.length,ws)) (0,(qc4 it b ws it.length,(it.length:Int),(it,b,(),((0,it.length),())),((),qc9 it b ws it.length,()),qbm it it.length,ws)) (n:=it.length) (fun i hi=>?_) ?_ it.length 0 (by omega) _ (Nat.lt_succ_self _)
 ·refine(qe (qK (show(i:Int)<qi it by simp only[qi];omega))).trans ((qe (inR hi)).trans ?_)
  cases h1:((ql it i).1==(1:Int))
  ·have ep:qc4 it b ws (i+1)=qc4 it b ws i:=by simp only[qc4,h1,cond_false]
   have eb:qc9 it b ws (i+1)=qc9 it b ws i++quB (qe8 it b ws i):=by simp only[qc9,h1,cond_false]
   refine(qB h1).trans ?_
   cases h2:((ql it i).1==(2:Int))
   ·have ei:qe8 it b ws i=(ql it i).2.2.1:=by unfold qe8;rw[h2];rfl
    refine(qB h2).trans ((qe (quc _).1).trans ((qe (hfit i hi _)).trans ?_))
    dsimp only
    rw[ep,eb,ei,qu (n:=(i:Int)+1) (by omega) (by omega)]
    rfl
   ·have h2':((ql it i).1 != (2:Int))=false:=by unfold bne;rw[h2];rfl
    obtain⟨o1,o2⟩:=qBg it b ws hn hm hd hi h2'
    have ei:qe8 it b ws i=((ql it i).2.2.1.1,0,0,0,0,qbu (it,qbm it it.length,qgl it b ws,(i:Int)),(ql it i).2.2.1.2.2.2.2.2.2.1,List.getD ws (qbl 0 (i:Int)) false,()):=by
     unfold qe8
     rw[h2,o2]
     unfold qbl wd
     rw[Int.toNat_natCast,Nat.zero_add]
     rfl
    refine(qe h2).trans ((qe o1).trans ((qe (inR hi)).trans ((qe (quc _).1).trans ((qe (hfit i hi _)).trans ?_))))
    dsimp only
    rw[ep,eb,ei,qu (n:=(i:Int)+1) (by omega) (by omega)]
    rfl
  ·have ep:qc4 it b ws (i+1)=qc4 it b ws i++[((ql it i).2.1,qbe it b ws i,())]:=by simp only[qc4,h1,cond_true]
   have eb:qc9 it b ws (i+1)=qc9 it b ws i:=by simp only[qc9,h1,cond_true]
   have hl:=qtI it b ws i
   refine(qe h1).trans ((qe ?_).trans ((qe ?_).trans ?_))
   ·show inRange (i:Int) (List.length (qgl it b ws))=true
    rw[qGv]
    exact inR (by omega)
   ·refine Nat.ble_eq_true_of_le ?_
    simp only[List.length_cons,List.length_nil]
    omega
   ·have eg:List.getD (qgl it b ws) (Int.toNat (i:Int)) 0=qbe it b ws i:=by rw[Int.toNat_natCast];exact qzl it b ws (Nat.le_of_lt hi)
    rw[ep,eb]
    show some (TL.on (qc4 it b ws i++[((ql it i).2.1,List.getD (qgl it b ws) (Int.toNat (i:Int)) 0,())],w64 ((i:Int)+1),(it,b,(),((0,it.length),())),((),qc9 it b ws i,()),qbm it it.length,ws))=_
    rw[eg,qu (n:=(i:Int)+1) (by omega) (by omega)]
    rfl
 ·exact(qB (qC (show ¬((it.length:Nat):Int)<qi it by simp only[qi];omega))).trans rfl
end
end Go.Av
namespace Go.Av
open Go
theorem three (k:Int) (h1:¬k<0) (h2:¬k > 2):k=0∨k=1∨k=2:=by omega
section
variable (it:List qk.den) (b:Int) (ws:List Bool) (hn:it.length≤21000) (hm:∀i,i<it.length→qfX it i=false) (hw:ws.length=it.length)
include hn hm hw
end
section
variable (it:List qk.den) (b:Int) (hn:it.length≤21000) (hb:0≤b∧b≤262144) (hm:∀i,i<it.length→qfX it i=false) (K:Nat) (hK:K≤it.length) (h1:∀k,k<K→qmr it b k=true) (h2:qmr it b K=false)
include hn hb hm hK h1 h2
theorem qIl (hd:∀i,i<it.length→qgs it i=false):LoopN.res qhU (it,b,()) ((it,b,(),((0,it.length),())),qbm it it.length,List.replicate it.length false) =
  some (0,((it,b,(),((0,it.length),())),qbm it it.length,qch it b (K+1))):=by
 unfold LoopN.res
 refine qdJ (turn:=qhU.turn (it,b,()) ((it,b,(),((0,it.length),())),qbm it it.length,List.replicate it.length false)) (fun k=>((it,b,(),((0,it.length),())),qbm it it.length,qch it b k)) (0,((it,b,(),((0,it.length),())),qbm it it.length,qch it b (K+1))) (n:=K) (fun k hk=>?_) ?_ K 0 (by omega) (List.length it+2) (by omega)
 ·obtain⟨g1,g2⟩:=qAc it b (qch it b k) hn hb hm (qkE it b k) hd
  have hh:=h1 k hk
  unfold qmr at hh
  refine(qe g1).trans ((qB ?_).trans ?_)
  ·show(!(qV () ((it,b,(),((0,it.length),())),qbm it it.length,qch it b k)).1)=false
   rw[g2,hh]
   rfl
  ·dsimp only
   rw[g2]
   rfl
 ·obtain⟨g1,g2⟩:=qAc it b (qch it b K) hn hb hm (qkE it b K) hd
  have hh:=h2
  unfold qmr at hh
  refine(qe g1).trans ((qe ?_).trans ?_)
  ·show(!(qV () ((it,b,(),((0,it.length),())),qbm it it.length,qch it b K)).1)=true
   rw[g2,hh]
   rfl
  ·dsimp only
   rw[g2]
   rfl
end
end Go.Av
end
section
namespace Go.Av
open Go
structure AsmFine (it:List qk.den) (b:Int):Prop where
 base:qns b=false
 item:∀i,i<it.length→qor it i=false
 chk:∀i,i<it.length→qjd it i=false
 dup:∀i,i<it.length→qgs it i=false
 miss:∀i,i<it.length→qfX it i=false
 small:qbe it 0 (qmf it) it.length≤262144
theorem qOI (it:List qk.den) (b:Int) (hc0:qhX it b=0):AsmFine it b:=by
 unfold qhX at hc0
 cases hbb:qns b
 ·rw[hbb,cond_false] at hc0
  cases hf1:q7 (qor it) it.length with
  |some k=>rw[hf1] at hc0;cases hc0
  |none =>
   rw[hf1] at hc0
   cases hf2:q7 (qjd it) it.length with
   |some k =>
    obtain⟨_,hk,_⟩:=qcX hf2
    unfold qjd at hk
    rw[Bool.and_eq_true] at hk
    rw[hf2] at hc0
    dsimp only at hc0
    rw[hc0] at hk
    cases hk.2
   |none =>
    rw[hf2] at hc0
    cases hf3:q7 (qgs it) it.length with
    |some k=>rw[hf3] at hc0;cases hc0
    |none =>
     rw[hf3] at hc0
     cases hf4:q7 (qfX it) it.length with
     |some k=>rw[hf4] at hc0;cases hc0
     |none =>
      rw[hf4] at hc0
      dsimp only at hc0
      cases hg:decide (qbe it 0 (qmf it) it.length > 262144)
      ·have:=of_decide_eq_false hg
       exact⟨hbb,qdB hf1,qdB hf2,qdB hf3,qdB hf4,by omega⟩
      ·rw[hg] at hc0;cases hc0
 ·rw[hbb] at hc0
  cases hc0
theorem qJF {it:List qk.den} {b:Int} (h:AsmFine it b):0≤b∧b≤262144∧b % 2=0:=by
 have f1:=h.base
 unfold qns at f1
 rw[Bool.or_eq_false_iff,Bool.or_eq_false_iff] at f1
 have h1:=of_decide_eq_false f1.1
 have h2:=of_decide_eq_false f1.2.1
 have h3:Int.tmod b 2=0:=by simpa using f1.2.2
 rw[Int.tmod_eq_emod_of_nonneg (by omega)] at h3
 omega
theorem qOe (it:List qk.den) (b:Int) (hn:it.length≤21000):qgj (it,b)=true ∧
  ((qhX it b≠0∧qcp (it,b)=([],[],qhX it b,())) ∨
   (AsmFine it b∧∃K,qmr it b K=false∧qcp (it,b)=(qc9 it b (qch it b K) it.length,qc4 it b (qch it b K) it.length,0,()))):=by
 have e1:qc0 0 (qi it)=it.length:=by simp[qc0,qi]
 have e2:zeros (qi it) false=List.replicate it.length false:=by simp[zeros,qi]
 obtain⟨m,c1,c2,c3⟩:=qJ1 it b ((0,it.length),()) (List.replicate it.length false) hn
 have hroom:qgh (qi it) 1=true:=by
  simp only[qgh,qi]
  simp
  omega
 have k0:qng (it,b)=true:=by
  unfold qng
  dsimp only
  rw[e1,e2]
  exact c1
 have k1:qee (it,b)=(qhX it b,(it,b,(),((0,it.length),())),m,List.replicate it.length false):=by
  unfold qee
  dsimp only
  rw[e1,e2]
  exact c2
 cases hc:(qhX it b != 0)
 ·have hc0:qhX it b=0:=by simpa using hc
  have hmm:=c3 hc0
  subst hmm
  have hf:=qOI it b hc0
  obtain⟨hb1,hb2,_⟩:=qJF hf
  have hb:0≤b∧b≤262144:=⟨hb1,hb2⟩
  have hd:=hf.dup
  have hm:=hf.miss
  obtain⟨K,hK,h1,h2⟩:=qIG it b
  have hsame:qch it b (K+1)=qch it b K:=qu2 it b (qch it b K) it.length h2
  have p5:=qIl it b hn hb hm K hK h1 h2 hd
  rw[hsame] at p5
  have hwl:=qkE it b K
  have e3:shown (qch it b K) (0,it.length)=qch it b K:=by simp[shown,←hwl]
  obtain⟨l1,l2⟩:=qw1 it b (qch it b K) hn hb
  have k2:qnd (it,b)=some (0,((it,b,(),((0,it.length),())),qbm it it.length,qch it b K)):=by
   unfold qnd
   rw[k1]
   exact p5
  have hv:(qfu (it,b)).val=some (qc9 it b (qch it b K) it.length,qc4 it b (qch it b K) it.length,0,()):=by
   unfold qfu
   rw[k0,k1,k2]
   refine(qe hroom).trans ((qe rfl).trans ((qB hc).trans ((qcP rfl).trans ?_)))
   dsimp only
   rw[e3,l2]
   exact(qe l1).trans ((qcP (qMl it b (qch it b K) hn hm hwl hd)).trans rfl)
  exact⟨by unfold qgj;rw[hv];rfl,.inr ⟨hf,K,h2,by unfold qcp PO.qH;rw[hv];rfl⟩⟩
 ·have hv:(qfu (it,b)).val=some ([],[],qhX it b,()):=by
   unfold qfu
   rw[k0,k1]
   exact(qe hroom).trans ((qe rfl).trans ((qe hc).trans rfl))
  exact⟨by unfold qgj;rw[hv];rfl,.inl ⟨by simpa using hc,by unfold qcp PO.qH;rw[hv];rfl⟩⟩
theorem qAx (it:List qk.den) (b:Int) (ws:List Bool):∀n,(qbr it b ws n).1=false→∀i,i<n→((ql it i).1 != (2:Int))=false→wd ws i=false→qrq it b ws i=false
 |0,_,_,h,_,_=>absurd h (Nat.not_lt_zero _)
 |n+1,h,i,hi,h2,hw=>by
  have hs:(qbr it b ws n).1=false:=by
   simp only[qbr] at h
   cases h1:((ql it n).1 != (2:Int)||wd (qbr it b ws n).2 n)<;>rw[h1] at h
   ·cases h2:qrq it b ws n<;>rw[h2] at h
    ·exact h
    ·cases h
   ·exact h
  have he:=qu2 it b ws n hs
  rcases Nat.lt_or_ge i n with h' |h'
  ·exact qAx it b ws n hs i h' h2 hw
  ·have:i=n:=by omega
   subst this
   simp only[qbr] at h
   rw[he,h2,hw] at h
   cases h3:qrq it b ws i
   ·rfl
   ·rw[h3] at h
    cases h
end Go.Av
end
section
namespace Go.Av
open Go
section
variable (op rd rn rm ra imm cond:Int) (w:Bool)
theorem qLy (h:(qm (op,w)).length=16∨(qm (op,w)).length=32):(e1 op rd rn rm ra imm cond w).length=16:=by
 unfold e1;rw[quZ,List.length_take];omega
theorem qPX (h:(qm (op,w)).length=32):(e2 op rd rn rm ra imm cond w).length=16:=by
 unfold e2;rw[quZ,List.length_drop];omega
def qfS:List UInt8:=bif (qm (op,w)).length==16 then by2 (hb (e1 op rd rn rm ra imm cond w) 0) else by2 (hb (e1 op rd rn rm ra imm cond w) 0)++by2 (hb (e2 op rd rn rm ra imm cond w) 0)
theorem qO1 (hok:okB op rd rn rm ra imm cond w=true):(qcE (op,rd,rn,rm,ra,imm,cond,w,())).val=some (qfS op rd rn rm ra imm cond w,0,()):=by
 have h:qf (op,rd,rn,rm,ra,imm,cond,w,())=0:=(qny op rd rn rm ra imm cond w).2 hok
 have hc:(qf (op,rd,rn,rm,ra,imm,cond,w,()) != (0:Int))=false:=by rw[h];rfl
 have hv:=qwS op rd rn rm ra imm cond w h
 have hg:qfb (op,rd,rn,rm,ra,imm,cond,w,())=true:=by unfold qfb;rw[hv];rfl
 have he:qb0 (op,rd,rn,rm,ra,imm,cond,w,())=qbU op rd rn rm ra imm cond w:=by unfold qb0 PO.qH;rw[hv];rfl
 have hl:=qu9 op rd rn rm ra imm cond w h
 obtain⟨hr,hs⟩:=qvq op rd rn rm ra imm cond w h
 have e1':(qcE (op,rd,rn,rm,ra,imm,cond,w,())).val=(bif qbR op w then some (qbZ (qbU op rd rn rm ra imm cond w).1++qbZ (qbU op rd rn rm ra imm cond w).2.1,0,()) else some (qbZ (qbU op rd rn rm ra imm cond w).1,0,())):=by
  unfold qcE
  dsimp only[PO.val]
  rw[hc,hg,he,hl]
  rfl
 rw[e1']
 rcases hs with⟨s1,s2,s3⟩ |⟨s1,s2,s3,s4⟩
 ·rw[s1,s3,qpe (qph _ _ _ _ _ _ _ s2 hr),qvM _ _ _ _ _ _ _ s2 hr]
  unfold qfS e1
  rw[s2,List.take_of_length_le (by omega)]
  rfl
 ·have t1:((qm (op,w)).take 16).length=16:=by rw[List.length_take];omega
  have t2:((qm (op,w)).drop 16).length=16:=by rw[List.length_drop];omega
  have r1:rowOf ((qm (op,w)).take 16)=true:=List.all_eq_true.2 fun c hc=>List.all_eq_true.1 hr c (List.mem_of_mem_take hc)
  have r2:rowOf ((qm (op,w)).drop 16)=true:=List.all_eq_true.2 fun c hc=>List.all_eq_true.1 hr c (List.mem_of_mem_drop hc)
  rw[s1,s3,s4,qpe (qph _ _ _ _ _ _ _ t1 r1),qpe (qph _ _ _ _ _ _ _ t2 r2),qvM _ _ _ _ _ _ _ t1 r1,qvM _ _ _ _ _ _ _ t2 r2]
  unfold qfS e1 e2
  rw[s2]
  rfl
end
theorem qx1 {n:Nat} (h:n<256):(toByte (n:Int)).toNat=n:=by
 show(UInt8.ofNat ((n:Int).toNat)).toNat=n
 rw[Int.toNat_natCast,UInt8.toNat_ofNat']
 omega
theorem qAC (n:Nat) (h:n<65536) (s:List UInt8):qjf (by2 n++s) 0=n:=by
 show(toByte ((n % 256:Nat):Int)).toNat+256*(toByte ((n / 256:Nat):Int)).toNat=n
 rw[qx1 (by omega),qx1 (by omega)]
 omega
theorem qIa (m n:Nat) (h:n<65536) (s:List UInt8):qjf (by2 m++(by2 n++s)) 1=n:=by
 show(toByte ((n % 256:Nat):Int)).toNat+256*(toByte ((n / 256:Nat):Int)).toNat=n
 rw[qx1 (by omega),qx1 (by omega)]
 omega
theorem qMW {l:List Bool} (h:l.length=16):hb l 0<65536:=by have:=qmi l;rw[h] at this;exact this
theorem qHs {s:List UInt8} {k:Nat} {l:List Bool} (hl:l.length=16) (h:qjf s k=hb l 0):hx s k=l:=by
 unfold hx
 rw[h,←hl,qGk]
theorem qMH (op rd rn rm ra imm cond:Int) (w:Bool) (hok:okB op rd rn rm ra imm cond w=true) (s:List UInt8):qne (qfS op rd rn rm ra imm cond w++s)=((op,rd,rn,rm,ra,imm,cond,w,()),qi (qfS op rd rn rm ra imm cond w),0,()):=by
 rcases qJB op rd rn rm ra imm cond w hok with⟨h1,h2,h3⟩ |⟨h1,h2,h3⟩
 ·have l1:=qLy op rd rn rm ra imm cond w (.inl h1)
  have hb1:=qMW l1
  have e:qfS op rd rn rm ra imm cond w=by2 (hb (e1 op rd rn rm ra imm cond w) 0):=by unfold qfS;rw[h1];rfl
  have hh:=qAC _ hb1 s
  have hx0:=qHs l1 hh
  rw[e]
  unfold qne
  rw[qC (p:=qi (by2 (hb (e1 op rd rn rm ra imm cond w) 0)++s)<2) (by simp only[qi,List.length_append,qto];omega),hh,qG9 l1,h2,hx0,h3]
  rfl
 ·have l1:=qLy op rd rn rm ra imm cond w (.inr h1)
  have l2:=qPX op rd rn rm ra imm cond w h1
  have hb1:=qMW l1
  have hb2:=qMW l2
  have e:qfS op rd rn rm ra imm cond w=by2 (hb (e1 op rd rn rm ra imm cond w) 0)++by2 (hb (e2 op rd rn rm ra imm cond w) 0):=by unfold qfS;rw[h1];rfl
  have hh:=qAC _ hb1 (by2 (hb (e2 op rd rn rm ra imm cond w) 0)++s)
  have hh2:=qIa (hb (e1 op rd rn rm ra imm cond w) 0) _ hb2 s
  have hx0:=qHs l1 hh
  have hx1:=qHs l2 hh2
  rw[e,List.append_assoc]
  unfold qne
  rw[qC (p:=qi (by2 (hb (e1 op rd rn rm ra imm cond w) 0)++(by2 (hb (e2 op rd rn rm ra imm cond w) 0)++s))<2) (by simp only[qi,List.length_append,qto];omega),
   qC (p:=qi (by2 (hb (e1 op rd rn rm ra imm cond w) 0)++(by2 (hb (e2 op rd rn rm ra imm cond w) 0)++s))<4) (by simp only[qi,List.length_append,qto];omega),hh,qG9 l1,h2,hx0,hx1,h3]
  rfl
theorem qIK {op rd rn rm ra imm cond:Int} {w:Bool} (h:okB op rd rn rm ra imm cond w=true):(qfS op rd rn rm ra imm cond w).length=2∨(qfS op rd rn rm ra imm cond w).length=4:=by
 rcases qJB op rd rn rm ra imm cond w h with⟨h1,_,_⟩ |⟨h1,_,_⟩
 ·left;unfold qfS;rw[h1];rfl
 ·right;unfold qfS;rw[h1];rfl
end Go.Av
end
section
namespace Go.Av
open Go
end Go.Av
end
section
namespace Go.Av
open Go
def qo2 (i:qA.den):List UInt8:=qfS i.1 i.2.1 i.2.2.1 i.2.2.2.1 i.2.2.2.2.1 i.2.2.2.2.2.1 i.2.2.2.2.2.2.1 i.2.2.2.2.2.2.2.1
def okI (i:qA.den):Bool:=okB i.1 i.2.1 i.2.2.1 i.2.2.2.1 i.2.2.2.2.1 i.2.2.2.2.2.1 i.2.2.2.2.2.2.1 i.2.2.2.2.2.2.2.1
theorem qwV (i:qA.den):qf i=0↔okI i=true:=by
 obtain⟨op,rd,rn,rm,ra,imm,cond,w,u⟩:=i
 exact qny op rd rn rm ra imm cond w
theorem qPs (i:qA.den) (h:okI i=true):quB i=qo2 i:=by
 obtain⟨op,rd,rn,rm,ra,imm,cond,w,u⟩:=i
 have hv:=qO1 op rd rn rm ra imm cond w h
 unfold quB qcr PO.qH
 exact(congrArg (fun v=>(Option.getD v default).1) hv).trans rfl
theorem qNt (i:qA.den) (h:okI i=true) (s:List UInt8):qne (qo2 i++s)=(i,qi (qo2 i),0,()):=by
 obtain⟨op,rd,rn,rm,ra,imm,cond,w,u⟩:=i
 exact qMH op rd rn rm ra imm cond w h s
theorem qB3 (i:qA.den) (h:okI i=true):(qo2 i).length=2∨(qo2 i).length=4:=qIK h
def cat (l:List qA.den):List UInt8:=l.flatMap qo2
theorem qDF (l:List qA.den) (i:qA.den):cat (l++[i])=cat l++qo2 i:=by simp[cat]
def qjS (it:List qk.den) (b:Int) (ws:List Bool):Nat→List qA.den
 |0=>[]
 |i+1=>bif (ql it i).1==1 then qjS it b ws i else qjS it b ws i++[qe8 it b ws i]
theorem qpw (it:List qk.den) (b:Int) (ws:List Bool):∀i,(∀k,k<i→((ql it k).1==(1:Int))=false→okI (qe8 it b ws k)=true)→qc9 it b ws i=cat (qjS it b ws i)∧∀x∈qjS it b ws i,okI x=true
 |0,_=>⟨rfl,fun _ h=>by cases h⟩
 |i+1,h=>by
  obtain⟨h1,h2⟩:=qpw it b ws i (fun k hk=>h k (by omega))
  simp only[qc9,qjS]
  cases hk:((ql it i).1==(1:Int))
  ·have hok:=h i (Nat.lt_succ_self _) hk
   simp only[cond_false]
   refine⟨?_,fun x hx=>?_⟩
   ·rw[qDF,←h1,qPs _ hok]
   ·rcases List.mem_append.1 hx with hx |hx
    ·exact h2 x hx
    ·rw[List.mem_singleton.1 hx];exact hok
  ·exact⟨h1,h2⟩
theorem qAe (it:List qk.den) (b:Int) (ws:List Bool) (i:Nat):∀n,i≤n→∃t,qjS it b ws n=qjS it b ws i++t
 |0,h=>⟨[],by
  have:i=0:=by omega
  subst this
  simp⟩
 |n+1,h=>by
  rcases Nat.lt_or_ge n i with h' |h'
  ·have:i=n+1:=by omega
   subst this
   exact⟨[],by simp⟩
  ·obtain⟨t,ht⟩:=qAe it b ws i n h'
   simp only[qjS]
   cases ((ql it n).1==(1:Int))
   ·exact⟨t++[qe8 it b ws n],by simp only[cond_false];rw[ht,List.append_assoc]⟩
   ·exact⟨t,ht⟩
theorem qq1 (j:qk.den) (h:qfi j=true):j.1=0∨j.1=1∨(j.1=2∧((j.2.2.1.1=24∧j.2.2.1.2.2.2.2.2.2.1=0)∨(j.2.2.1.1=25∧0≤j.2.2.1.2.2.2.2.2.2.1∧j.2.2.1.2.2.2.2.2.2.1≤13))):=by
 obtain⟨k,l,⟨op,rd,rn,rm,ra,imm,cond,w,u⟩,v⟩:=j
 by_cases h0:k=0
 ·exact .inl h0
 by_cases h1:k=1
 ·exact .inr (.inl h1)
 have e0:(k==(0:Int))=false:=by simpa using h0
 have e1:(k==(1:Int))=false:=by simpa using h1
 by_cases h2:k=2
 ·refine .inr (.inr ⟨h2,?_⟩)
  subst h2
  have h:qgE (op,rd,rn,rm,ra,imm,cond,w,u)=true:=h
  unfold qgE qjE PO.qH at h
  simp only[PO.val] at h
  show(op=24∧cond=0)∨(op=25∧0≤cond∧cond≤13)
  by_cases g:op=24
  ·subst g
   left
   refine⟨rfl,?_⟩
   have h:(cond==(0:Int))=true:=h
   simpa using h
  ·have g1:(op==(24:Int))=false:=by simpa using g
   rw[g1,cond_false] at h
   by_cases g':op=25
   ·subst g'
    right
    have h:(decide (cond≥0)&&decide (cond≤13))=true:=h
    rw[Bool.and_eq_true] at h
    have a:=of_decide_eq_true h.1
    have b:=of_decide_eq_true h.2
    exact⟨rfl,by omega,by omega⟩
   ·have g2:(op==(25:Int))=false:=by simpa using g'
    rw[g2,cond_false] at h
    cases h
 ·exfalso
  have e2:(k==(2:Int))=false:=by simpa using h2
  unfold qfi qlS PO.qH at h
  simp only[PO.val,e0,e1,e2,cond_false] at h
  cases h
theorem qOb:qbP (24,false)=(-2048,2046,()):=rfl
theorem qN6:qbP (25,false)=(-256,254,()):=rfl
theorem qw2 (it:List qk.den) (b:Int) (ws:List Bool) {i:Nat}:∀{k:Nat},i≤k→qbe it b ws i≤qbe it b ws k
 |0,h=>by rw[show i=0 by omega];exact Int.le_refl _
 |k+1,h=>by
  rcases Nat.lt_or_ge k i with h' |h'
  ·rw[show i=k+1 by omega];exact Int.le_refl _
  ·have:=qw2 it b ws h'
   have:=qwK (ql it k) (wd ws k)
   simp only[qbe]
   omega
theorem qIM (j:qk.den) (w:Bool):qfD j w % 2=0:=by
 unfold qfD
 cases (j.1==(0:Int))
 ·cases (j.1==(2:Int))<;>cases w<;>rfl
 ·have key:∀(x:qA.den) (n:Int),qci x=n→n % 2=0:=fun x n h=>by
   subst h
   unfold qci
   cases (qf x != 0)<;>cases qbR x.1 x.2.2.2.2.2.2.2.1<;>rfl
  exact key j.2.2.1 _ rfl
theorem qxq (it:List qk.den) (b:Int) (ws:List Bool):∀i k:Nat,(qbe it b ws i-qbe it b ws k) % 2=0:=by
 have h:∀i:Nat,(qbe it b ws i-b) % 2=0:=fun i=>by
  induction i with
  |zero=>simp[qbe]
  |succ i ih =>
   have:=qIM (ql it i) (wd ws i)
   simp only[qbe]
   omega
 intro i k
 have h1:=h i
 have h2:=h k
 omega
theorem qLs {it:List qk.den} {b:Int} {ws:List Bool} {i:Nat} (h:qrq it b ws i=false):((ql it i).2.2.1.1=24→-2048≤qjO it b ws i∧qjO it b ws i≤2046)∧((ql it i).2.2.1.1=25→-256≤qjO it b ws i∧qjO it b ws i≤254):=by
 unfold qrq at h
 rw[Bool.or_eq_false_iff] at h
 have a:=of_decide_eq_false h.1
 have c:=of_decide_eq_false h.2
 constructor
 ·intro e
  rw[e,qOb] at a c
  dsimp only at a c
  omega
 ·intro e
  rw[e,qN6] at a c
  dsimp only at a c
  omega
theorem qQT (imm:Int) (w:Bool) (h1:imm % 2=0) (h2:w=false→-2048≤imm∧imm≤2046) (h3:-1000000≤imm∧imm≤1000000):okB 24 0 0 0 0 imm 0 w=true:=by
 show(imm % 2==0&&bif w then bw imm (-16777216) 16777214 else bw imm (-2048) 2046)=true
 rw[h1]
 cases w
 ·obtain⟨a,b⟩:=h2 rfl
  simp[bw,a,b]
 ·have a:-16777216≤imm:=by omega
  have b:imm≤16777214:=by omega
  simp[bw,a,b]
theorem qP7 (imm cond:Int) (w:Bool) (h1:imm % 2=0) (h2:w=false→-256≤imm∧imm≤254) (h3:-1000000≤imm∧imm≤1000000) (hc:0≤cond∧cond≤13):okB 25 0 0 0 0 imm cond w=true:=by
 show(bw cond 0 13&&(imm % 2==0&&bif w then bw imm (-1048576) 1048574 else bw imm (-256) 254))=true
 rw[h1]
 obtain⟨c,d⟩:=hc
 cases w
 ·obtain⟨a,b⟩:=h2 rfl
  simp[bw,a,b,c,d]
 ·have a:-1048576≤imm:=by omega
  have b:imm≤1048574:=by omega
  simp[bw,a,b,c,d]
section
variable (it:List qk.den) (b:Int) (ws:List Bool) (hn:it.length≤21000) (hf:AsmFine it b) (hp:(qbr it b ws it.length).1=false)
include hn hf hp
theorem qn1 {i:Nat} (hi:i<it.length) (hk:((ql it i).1==(1:Int))=false):okI (qe8 it b ws i)=true:=by
 have hj:qfi (ql it i)=true:=by
  have:=hf.item i hi
  unfold qor at this
  simpa using this
 rcases qq1 _ hj with h0 |h1 |⟨h2,hop⟩
 ·have e:qe8 it b ws i=(ql it i).2.2.1:=by unfold qe8;rw[h0];rfl
  rw[e]
  refine(qwV _).1 ?_
  have hc:=hf.chk i hi
  unfold qjd at hc
  rw[h0] at hc
  simpa using hc
 ·rw[h1] at hk;cases hk
 ·have e:qe8 it b ws i=((ql it i).2.2.1.1,0,0,0,0,qjO it b ws i,(ql it i).2.2.1.2.2.2.2.2.2.1,wd ws i,()):=by unfold qe8;rw[h2];rfl
  rw[e]
  show okB (ql it i).2.2.1.1 0 0 0 0 (qjO it b ws i) (ql it i).2.2.1.2.2.2.2.2.2.1 (wd ws i)=true
  have hbr:((ql it i).1 != (2:Int))=false:=by rw[h2];rfl
  have hev:qjO it b ws i % 2=0:=by
   have:=qxq it b ws (tgt it i) i
   unfold qjO
   omega
  have hr:wd ws i=false→qrq it b ws i=false:=fun hw=>qAx it b ws it.length hp i hi hbr hw
  have hfar:-1000000≤qjO it b ws i∧qjO it b ws i≤1000000:=by
   have h1:=qhx it b ws i
   have h2:=qhx it b ws (tgt it i)
   have h3:=(qt6 it hf.miss hi hbr).2
   unfold qjO
   omega
  rcases hop with⟨ho,hc⟩ |⟨ho,hc⟩
  ·rw[ho,hc]
   exact qQT _ _ hev (fun hw=>(qLs (hr hw)).1 ho) hfar
  ·rw[ho]
   exact qP7 _ _ _ hev (fun hw=>(qLs (hr hw)).2 ho) hfar hc
theorem qMI {i:Nat} (hi:i<it.length) (hk:((ql it i).1==(1:Int))=false):qci (qe8 it b ws i)=qfD (ql it i) (wd ws i):=by
 have hok:=qn1 it b ws hn hf hp hi hk
 have hj:qfi (ql it i)=true:=by
  have:=hf.item i hi
  unfold qor at this
  simpa using this
 rcases qq1 _ hj with h0 |h1 |⟨h2,hop⟩
 ·have e:qe8 it b ws i=(ql it i).2.2.1:=by unfold qe8;rw[h0];rfl
  rw[e]
  unfold qfD
  rw[h0]
  rfl
 ·rw[h1] at hk;cases hk
 ·have hz:qf (qe8 it b ws i)=0:=(qwV _).2 hok
  unfold qci
  rw[hz]
  have e:qe8 it b ws i=((ql it i).2.2.1.1,0,0,0,0,qjO it b ws i,(ql it i).2.2.1.2.2.2.2.2.2.1,wd ws i,()):=by unfold qe8;rw[h2];rfl
  rw[e]
  unfold qfD
  rw[h2]
  show(bif qbR (ql it i).2.2.1.1 (wd ws i) then(4:Int) else 2)=bif wd ws i then 4 else 2
  rcases hop with⟨ho,_⟩ |⟨ho,_⟩
  ·rw[ho];cases wd ws i<;>rfl
  ·rw[ho];cases wd ws i<;>rfl
end
end Go.Av
end
section
namespace Go.Av
open Go
def qQz (q:List qtg.den×Int×qxg):qeR.den:=(q.2.2.2.1,((q.1.length:Nat):Int),qtK q.1,q.2.1,qox 537919488 q.2.2.2.2,qox 538968064 q.2.2.2.2,(qjV 2 q.2.2.2.2).1,(qjV 3 q.2.2.2.2).1,(qjV 4 q.2.2.2.2).1,())
theorem qQR (y:MS) (f:qX.den) (b:Int):qzo y f b=qQz (goX y.1.1 y.1.2.1 f b.toNat 0 (qcI y)):=rfl
theorem qNd (k:Int):qcn qev k=qev:=by
 unfold qcn
 cases qev.2.1==k<;>rfl
section
variable (hd:qce.den) (fl:List UInt8) (f:qX.den)
end
theorem qOA {img inp:List UInt8} (h1:((qds img).2.1 != (0:Int))=false) (h2:(qi inp != (qds img).1.2.2.1.1)=false) (f:qX.den) (b:Int) (hf:qM f=0) (hb:0≤b∧b≤67108864) :
  qCR img inp f b=(qzo (qkp (qds img).1 img inp) f b,0,()):=by
 unfold qCR
 rw[h1,h2]
 have:(qM f != 0||(decide (b<0)||decide (b > 67108864)))=false:=by
  rw[hf]
  simp
  omega
 rw[this]
 rfl
end Go.Av
end
section
namespace Go.Av
open Go
end Go.Av
end
section
namespace Go.Av
open Go
end Go.Av
end
section
namespace Go.Av
open Go
def qp (op rd rn rm ra imm cond:Int):qA.den:=(op,rd,rn,rm,ra,imm,cond,false,())
def itI (i:qA.den):qk.den:=(0,0,i,())
def itL (n:Int):qk.den:=(1,n,qp 0 0 0 0 0 0 0,())
def itB (n:Int):qk.den:=(2,n,qp 24 0 0 0 0 0 0,())
def itC (c n:Int):qk.den:=(2,n,qp 25 0 0 0 0 0 c,())
def lo (ref:Bool) (n:Int):Int:=match ref with
 |false=>qR IntKind.i64 n 65535
 |true=>w64 (Int.tmod (IntKind.wrap IntKind.u64 n) 65536)
def hi (ref:Bool) (n:Int):Int:=match ref with
 |false=>qR IntKind.i64 (qw IntKind.i64 n 16) 65535
 |true=>w64 (Int.tmod (IntKind.wrap IntKind.u64 (Int.tdiv (IntKind.wrap IntKind.u64 n) 65536)) 65536)
def qrz (rd imm:Int):qA.den:=qp 3 rd 0 0 0 imm 0
def qrc (ref:Bool) (reg n:Int):List qA.den:=[qrz reg (lo ref n),qp 4 reg 0 0 0 (hi ref n) 0]
def qq3 (ref:Bool) (reg base frm:Int):List qA.den:=[qrz reg 0,qp 4 reg 0 0 0 (hi ref base) 0,qp 18 reg frm 0 16 0 0]
def qHq (d n m:Int):qA.den:=qp 14 d n m 0 0 0
def qMw (n m:Int):qA.den:=qp 23 0 n m 0 0 0
def qBt (d n:Int):qA.den:=qp 19 d n 0 0 0 0
def qBO (d n:Int):qA.den:=qp 20 d n 0 0 0 0
def qSW (d m:Int):qA.den:=qp 5 d 0 m 0 0 0
def qBe:qA.den:=qp 2 0 0 0 0 0 0
def its (l:List qA.den):List qk.den:=l.map itI
abbrev qhy:List Ty:=[tI,tI]
abbrev qFv:Sh:=.osl 32 qA
def qsR (x:qd qhy):PO (List qA.den):=.ite (decide (x.1<0)||decide (x.1 > 7)) (.ret []) (.ret (qrc false x.1 x.2))
def qwr (_:qd qhy):Bool:=true
def qwB (x:qd qhy):List qA.den:=bif decide (x.1<0)||decide (x.1 > 7) then[] else qrc false x.1 x.2
theorem qCD (x:qd qhy) (_:qwr x=true):(qsR x).val=some (qwB x):=by
 unfold qsR qwB PO.val
 cases decide (x.1<0)||decide (x.1 > 7)<;>rfl
abbrev qjv:List Ty:=[tI,tI,tI]
abbrev qs2:Sh:=.osl 32 qA
def qpp (x:qd qjv):PO (List qA.den):=.ite (decide (x.1<0)||(decide (x.1 > 7)||(decide (x.2.2<0)||(decide (x.2.2 > 12)||x.1==x.2.2)))) (.ret []) (.ret (qq3 false x.1 x.2.1 x.2.2))
def qpm (_:qd qjv):Bool:=true
def ql1 (x:qd qjv):List qA.den:=bif decide (x.1<0)||(decide (x.1 > 7)||(decide (x.2.2<0)||(decide (x.2.2 > 12)||x.1==x.2.2))) then[] else qq3 false x.1 x.2.1 x.2.2
theorem qyK (x:qd qjv) (_:qpm x=true):(qpp x).val=some (ql1 x):=by
 unfold qpp ql1 PO.val
 cases decide (x.1<0)||(decide (x.1 > 7)||(decide (x.2.2<0)||(decide (x.2.2 > 12)||x.1==x.2.2)))<;>rfl
def two {α:Type} (b:Bool) (k:Bool→Bool→PO α):PO α:=.ite b (.ite b (k true true) (k true false)) (.ite b (k false true) (k false false))
theorem qPD {α:Type} (b:Bool) (k:Bool→Bool→PO α):(two b k).val=(k b b).val:=by cases b<;>rfl
def qyB (ref:Bool) (n first:Int):List qk.den:=its [qrz 1 0]++[itL first]++its (qrc ref 2 n)++its [qMw 1 2]++[itC 2 (w64 (first+1))]
def qxw (first:Int):List qk.den:=its [qrz 3 4,qHq 4 1 3,qSW 1 4]++[itB first,itL (w64 (first+1))]
end Go.Av
end
section
namespace Go.Av
open Go
end Go.Av
end
section
namespace Go.Av
open Go
end Go.Av
end
section
namespace Go.Av
open Go
def qSQ (x:Int×Int×Int):List qA.den:=[qrz 7 x.1,qp 4 7 0 0 0 (bif x.2.1==0 then 8196 else 8200) 0,qBt x.2.2 7]
end Go.Av
end
section
namespace Go.Av
open Go
end Go.Av
end
