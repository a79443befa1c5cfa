/- Texts of the proof, one behind the other. -/
import Derived.Test.YtealbjacocgjcaaGreatWipeFaultK29
import Derived.Test.YtealbjacocgjcaaGreatWipeFaultK28
import Derived.Test.YtealbjacocgjcaaGreatWipeFaultK26
import Derived.Test.YtealbjacocgjcaaGreatWipeFaultK25
section
namespace Go.Av
open Go
end Go.Av
namespace Go.Av
open Go
abbrev itemAt (it:List tItem.den) (i:Nat):tItem.den:=List.getD it i (Ty.dflt tItem)
def wd (ws:List Bool) (i:Nat):Bool:=List.getD ws i false
def sizeJ (j:tItem.den) (w:Bool):Int:=bif j.1==0 then q6 j.2.2.1 else bif j.1==2 then(bif w then 4 else 2) else 0
theorem size_bound (x:tIns.den) (n:Int) (h:q6 x=n):0≤n∧n≤4:=by
 subst h
 unfold q6
 cases (qd x != 0)<;>cases isLong x.1 x.2.2.2.2.2.2.2.1<;>exact⟨by decide,by decide⟩
theorem sizeJ_bound (j:tItem.den) (w:Bool):0≤sizeJ j w∧sizeJ j w≤4:=by
 unfold sizeJ
 cases (j.1==(0:Int))
 ·cases (j.1==(2:Int))<;>cases w<;>simp
 ·exact size_bound j.2.2.1 _ rfl
def posI (it:List tItem.den) (b:Int) (ws:List Bool):Nat→Int
 |0=>b
 |i+1=>posI it b ws i+sizeJ (itemAt it i) (wd ws i)
theorem pos_bound (it:List tItem.den) (b:Int) (ws:List Bool):∀i:Nat,b≤posI it b ws i∧posI it b ws i≤b+4*(i:Int)
 |0=>⟨by simp[posI],by simp[posI]⟩
 |i+1=>by
  obtain⟨h1,h2⟩:=pos_bound it b ws i
  obtain⟨h3,h4⟩:=sizeJ_bound (itemAt it i) (wd ws i)
  simp only[posI]
  omega
def layTo (it:List tItem.den) (b:Int) (ws:List Bool) (n:Nat):List Int:=(List.range n).map (posI it b ws)
theorem layTo_len (it:List tItem.den) (b:Int) (ws:List Bool) (n:Nat):(layTo it b ws n).length=n:=by simp[layTo]
theorem layTo_succ (it:List tItem.den) (b:Int) (ws:List Bool) (n:Nat):layTo it b ws n++[posI it b ws n]=layTo it b ws (n+1):=by simp[layTo,List.range_succ]
def layM (it:List tItem.den) (b:Int) (ws:List Bool):List Int:=layTo it b ws (List.length it+1)
theorem isWide_val (ws:List Bool) (i:Nat):(qgo (ws,(i:Int))).val=some (wd ws i):=by
 by_cases h:i<ws.length
 ·have h1:decide ((i:Int)<lenI ws)=true:=dec_true (by simp only[lenI];omega)
  refine(val_yes ?_).trans ?_
  ·show(bif decide ((i:Int)<lenI ws) then inRange (i:Int) (List.length ws) else true)=true
   rw[h1]
   exact inR h
  ·show some (decide ((i:Int)<lenI ws)&&List.getD ws (Int.toNat (i:Int)) false)=some (wd ws i)
   rw[h1]
   rfl
 ·have h1:decide ((i:Int)<lenI ws)=false:=dec_false (by simp only[lenI];omega)
  refine(val_yes ?_).trans ?_
  ·show(bif decide ((i:Int)<lenI ws) then inRange (i:Int) (List.length ws) else true)=true
   rw[h1]
   rfl
  ·show some (decide ((i:Int)<lenI ws)&&List.getD ws (Int.toNat (i:Int)) false)=some (wd ws i)
   have hw:wd ws i=false:=by
    unfold wd
    rw[List.getD_eq_getElem?_getD,List.getElem?_eq_none (by omega)]
    rfl
   rw[h1,hw]
   rfl
theorem isWide_run (ws:List Bool) (i:Nat):qd2 (ws,(i:Int))=true∧qd4 (ws,(i:Int))=wd ws i:=by
 have h:=isWide_val ws i
 exact⟨by unfold qd2;rw[h];rfl,by unfold qd4 PO.getO;rw[h];rfl⟩
section
variable (it:List tItem.den) (b:Int) (ws:List Bool) (hn:it.length≤21000) (hb:0≤b∧b≤262144)
include hn hb
omit hb in
theorem fits8 {k:Nat} (hk:k≤it.length):Nat.ble ((List.length (layTo it b ws k)+1)*8) 140737488355328=true:=by
 refine Nat.ble_eq_true_of_le ?_
 rw[layTo_len]
 omega
theorem alay_val:(qiS (it,b,ws)).val=some (layM it b ws):=by
 have hl:LoopN.res qgU (b,ws,[],it,lenI it,0) ()=some (0,posI it b ws it.length,layTo it b ws it.length,(it.length:Int)):=by
  unfold LoopN.res
  refine runL_count (turn:=qgU.turn (b,ws,[],it,lenI it,0) ()) (fun k=>(posI it b ws k,layTo it b ws k,(k:Int))) (0,(posI it b ws it.length,layTo it b ws it.length,(it.length:Int))) (n:=it.length) (fun k hk=>?_) ?_ it.length 0 (by omega) _ (Nat.lt_succ_self _)
  ·obtain⟨h1,h2⟩:=isWide_run ws k
   have h3:=pos_bound it b ws k
   have h4:=size_bound (itemAt it k).2.2.1 _ rfl
   refine(val_yes (dec_true (show(k:Int)<lenI it by simp only[lenI];omega))).trans ((val_yes (inR hk)).trans ((val_yes (fits8 it b ws hn (Nat.le_of_lt hk))).trans ((val_yes ?_).trans ?_)))
   ·show((itemAt it k).1==0||bif (itemAt it k).1==2 then qd2 (ws,(k:Int)) else true)=true
    rw[h1]
    cases ((itemAt it k).1==(0:Int))<;>cases ((itemAt it k).1==(2:Int))<;>rfl
   ·show some (TL.on (bif (itemAt it k).1==0 then w64 (posI it b ws k+q6 (itemAt it k).2.2.1) else bif (itemAt it k).1==2&&qd4 (ws,(k:Int)) then w64 (posI it b ws k+4) else bif (itemAt it k).1==2 then w64 (posI it b ws k+2) else posI it b ws k,layTo it b ws k++[posI it b ws k],w64 ((k:Int)+1)))=some (TL.on (posI it b ws (k+1),layTo it b ws (k+1),((k+1:Nat):Int)))
    rw[h2,w64_id (n:=(k:Int)+1) (by omega) (by omega),layTo_succ,w64_id (n:=posI it b ws k+4) (by omega) (by omega),w64_id (n:=posI it b ws k+2) (by omega) (by omega),w64_id (n:=posI it b ws k+q6 (itemAt it k).2.2.1) (by omega) (by omega)]
    have e:(bif (itemAt it k).1==0 then posI it b ws k+q6 (itemAt it k).2.2.1 else bif (itemAt it k).1==2&&wd ws k then posI it b ws k+4 else bif (itemAt it k).1==2 then posI it b ws k+2 else posI it b ws k)=posI it b ws (k+1):=by
     show _=posI it b ws k+sizeJ (itemAt it k) (wd ws k)
     unfold sizeJ
     cases ((itemAt it k).1==(0:Int))<;>cases ((itemAt it k).1==(2:Int))<;>cases wd ws k<;>simp
    rw[e]
    rfl
  ·exact(val_no (dec_false (show ¬((it.length:Nat):Int)<lenI it by simp only[lenI];omega))).trans rfl
 refine(val_yes ?_).trans ((val_opt hl).trans ((val_yes (fits8 it b ws hn (Nat.le_refl _))).trans ?_))
 ·show roomOk (w64 (lenI it+1)) 8=true
  rw[w64_id (by simp only[lenI];omega) (by simp only[lenI];omega)]
  simp only[roomOk,lenI]
  simp
  omega
 ·show some (layTo it b ws it.length++[posI it b ws it.length])=_
  rw[layTo_succ]
  rfl
theorem alay_run:qff (it,b,ws)=true∧qeB (it,b,ws)=layM it b ws:=by
 have h:=alay_val it b ws hn hb
 exact⟨by unfold qff;rw[h];rfl,by unfold qeB PO.getO;rw[h];rfl⟩
end
end Go.Av
namespace Go.Av
open Go
def firstP (p:Nat→Bool):Nat→Option Nat
 |0=>none
 |n+1=>match firstP p n with
  |some j=>some j
  |none=>bif p n then some n else none
theorem firstP_some {p:Nat→Bool}:∀{n k:Nat},firstP p n=some k→k<n∧p k=true∧∀i,i<k→p i=false
 |0,_,h=>by cases h
 |n+1,k,h=>by
  simp only[firstP] at h
  cases e:firstP p n with
  |some j =>
   rw[e] at h
   cases h
   obtain⟨h1,h2⟩:=firstP_some e
   exact⟨by omega,h2⟩
  |none =>
   rw[e] at h
   cases hp:p n with
   |false=>rw[hp] at h;cases h
   |true =>
    rw[hp] at h
    cases h
    refine⟨Nat.lt_succ_self _,hp,fun i hi=>?_⟩
    exact firstP_none e i hi
 where firstP_none {p:Nat→Bool}:∀{n:Nat},firstP p n=none→∀i,i<n→p i=false
 |0,_,_,h=>absurd h (Nat.not_lt_zero _)
 |n+1,h,i,hi=>by
  simp only[firstP] at h
  cases e:firstP p n with
  |some j=>rw[e] at h;cases h
  |none =>
   rw[e] at h
   cases hp:p n with
   |true=>rw[hp] at h;cases h
   |false =>
    rcases Nat.lt_or_ge i n with h' |h'
    ·exact firstP_none e i h'
    ·rw[show i=n by omega];exact hp
theorem firstP_none {p:Nat→Bool} {n:Nat} (h:firstP p n=none):∀i,i<n→p i=false:=firstP_some.firstP_none h
theorem scan_run {σ:Type} {turn:σ→PO (TL σ)} (st:Nat→σ) (p:Nat→Bool) (n:Nat) (e:Nat→Nat×σ) (r:Nat×σ)
  (hon:∀i,i<n→(∀j,j<i→p j=false)→p i=false→(turn (st i)).val=some (.on (st (i+1))))
  (hbad:∀i,i<n→(∀j,j<i→p j=false)→p i=true→(turn (st i)).val=some (.out (e i).1 (e i).2))
  (hend:(∀j,j<n→p j=false)→(turn (st n)).val=some (.out r.1 r.2)) (f:Nat) (hf:n<f) :
  runL turn f (st 0)=some (match firstP p n with
   |some k=>e k
   |none=>r):=by
 cases h:firstP p n with
 |some k =>
  obtain⟨h1,h2,h3⟩:=firstP_some h
  exact runL_count st (e k) (n:=k) (fun i hi=>hon i (by omega) (fun j hj=>h3 j (by omega)) (h3 i hi)) (hbad k h1 h3 h2) k 0 (by omega) f (by omega)
 |none =>
  have h3:=firstP_none h
  exact runL_count st r (n:=n) (fun i hi=>hon i hi (fun j hj=>h3 j (by omega)) (h3 i hi)) (hend h3) n 0 (by omega) f hf
theorem mget_mput (l:Int) (k v:Int):∀m:List (Int×Int),mget (mput m k v) l=bif l==k then some v else mget m l
 |[]=>by simp only[mput,mget]
 |(j,u)::m=>by
  simp only[mput]
  cases hk:(k==j)
  ·simp only[cond_false,mget]
   rw[mget_mput l k v m]
   cases hl:(l==j)
   ·rfl
   ·cases hlk:(l==k)
    ·rfl
    ·have h1:l=j:=by simpa using hl
     have h2:l=k:=by simpa using hlk
     rw[←h1,←h2] at hk
     simp at hk
  ·have h1:k=j:=by simpa using hk
   subst h1
   simp only[cond_true,mget]
   cases (l==k)<;>rfl
def isLab (it:List tItem.den) (l:Int) (i:Nat):Bool:=(itemAt it i).1==1&&(itemAt it i).2.1==l
def dupAt (it:List tItem.den) (i:Nat):Bool:=(itemAt it i).1==1&&(firstP (isLab it (itemAt it i).2.1) i).isSome
def mapTo (it:List tItem.den):Nat→List (Int×Int)
 |0=>[]
 |k+1=>bif (itemAt it k).1==1 then mput (mapTo it k) (itemAt it k).2.1 (k:Int) else mapTo it k
theorem map_get (it:List tItem.den) (l:Int):∀n:Nat,(∀i,i<n→dupAt it i=false)→mget (mapTo it n) l=(firstP (isLab it l) n).map fun k:Nat=>(k:Int)
 |0,_=>rfl
 |n+1,h=>by
  have ih:=map_get it l n (fun i hi=>h i (by omega))
  have hd:=h n (Nat.lt_succ_self n)
  simp only[mapTo,firstP]
  unfold dupAt at hd
  cases h1:((itemAt it n).1==(1:Int))
  ·have hl:isLab it l n=false:=by unfold isLab;rw[h1];rfl
   rw[hl,cond_false,ih]
   cases firstP (isLab it l) n<;>rfl
  ·rw[h1,Bool.true_and] at hd
   rw[cond_true,mget_mput]
   cases h2:(l==(itemAt it n).2.1)
   ·have hl:isLab it l n=false:=by
     unfold isLab
     have:((itemAt it n).2.1==l)=false:=by
      rw[beq_eq_false_iff_ne] at h2 ⊢
      exact fun e=>h2 e.symm
     rw[this,Bool.and_false]
    rw[hl,cond_false,ih]
    cases firstP (isLab it l) n<;>rfl
   ·have e:l=(itemAt it n).2.1:=by simpa using h2
    subst e
    have hl:isLab it (itemAt it n).2.1 n=true:=by
     unfold isLab
     rw[h1]
     simp
    cases hf:firstP (isLab it (itemAt it n).2.1) n with
    |some j=>rw[hf] at hd;cases hd
    |none=>rw[hl];rfl
end Go.Av
namespace Go.Av
open Go
def badJ (it:List tItem.den) (i:Nat):Bool:=!qcB (itemAt it i)
def chkAt (it:List tItem.den) (i:Nat):Bool:=(itemAt it i).1==0&&qd (itemAt it i).2.2.1 != 0
def missAt (it:List tItem.den) (i:Nat):Bool:=(itemAt it i).1==2&&(firstP (isLab it (itemAt it i).2.1) it.length).isNone
def allT (it:List tItem.den):List Bool:=List.replicate it.length true
def baseBad (b:Int):Bool:=decide (b<0)||(decide (b > 262144)||Int.tmod b 2 != 0)
def codeM (it:List tItem.den) (b:Int):Int:=bif baseBad b then 2 else match firstP (badJ it) it.length with
 |some _=>2
 |none=>match firstP (chkAt it) it.length with
  |some k=>qd (itemAt it k).2.2.1
  |none=>match firstP (dupAt it) it.length with
   |some _=>13
   |none=>match firstP (missAt it) it.length with
    |some _=>12
    |none=>bif decide (posI it 0 (allT it) it.length > 262144) then 5 else 0
section
variable (it:List tItem.den) (hn:it.length≤21000)
include hn
end
end Go.Av
namespace Go.Av
open Go
section
variable (it:List tItem.den) (b:Int) (w:(Nat×Nat)×Unit) (zs:List Bool) (hn:it.length≤21000)
include hn
def codeI (it:List tItem.den):Int:=match firstP (badJ it) it.length with
 |some _=>2
 |none=>match firstP (chkAt it) it.length with
  |some k=>qd (itemAt it k).2.2.1
  |none=>0
def codeN (it:List tItem.den):Int:=match firstP (dupAt it) it.length with
 |some _=>13
 |none=>match firstP (missAt it) it.length with
  |some _=>12
  |none=>0
theorem items2 (m:List (Int×Int)):LoopN.res qca ((),0,it,lenI it,0) ((it,b,(),w),m,zs)=some (match firstP (badJ it) it.length with
  |some k=>(1,(2,(k:Int),(it,b,(),w),m,zs))
  |none=>(0,(0,(it.length:Int),(it,b,(),w),m,zs))):=by
 unfold LoopN.res
 refine scan_run (turn:=qca.turn ((),0,it,lenI it,0) ((it,b,(),w),m,zs)) (fun i=>((0:Int),(i:Int),(it,b,(),w),m,zs)) (badJ it) it.length (fun k=>(1,(2,(k:Int),(it,b,(),w),m,zs))) (0,(0,(it.length:Int),(it,b,(),w),m,zs)) (fun i hi _ hp=>?_) (fun i hi _ hp=>?_) (fun _=>?_) _ (Nat.lt_succ_self _)
 ·refine(val_yes (dec_true (show(i:Int)<lenI it by simp only[lenI];omega))).trans ((val_yes (inR hi)).trans ((val_no hp).trans ?_))
  dsimp only
  rw[w64_id (n:=(i:Int)+1) (by omega) (by omega)]
  rfl
 ·exact(val_yes (dec_true (show(i:Int)<lenI it by simp only[lenI];omega))).trans ((val_yes (inR hi)).trans ((val_yes hp).trans rfl))
 ·exact(val_no (dec_false (show ¬((it.length:Nat):Int)<lenI it by simp only[lenI];omega))).trans rfl
theorem items8:LoopN.res qcb (0,it,lenI it,0) ()=some (match firstP (chkAt it) it.length with
  |some k=>(1,(qd (itemAt it k).2.2.1,(k:Int)))
  |none=>(0,(0,(it.length:Int)))):=by
 unfold LoopN.res
 refine scan_run (turn:=qcb.turn (0,it,lenI it,0) ()) (fun i=>((0:Int),(i:Int))) (chkAt it) it.length (fun k=>(1,(qd (itemAt it k).2.2.1,(k:Int)))) (0,(0,(it.length:Int))) (fun i hi _ hp=>?_) (fun i hi _ hp=>?_) (fun _=>?_) _ (Nat.lt_succ_self _)
 ·refine(val_yes (dec_true (show(i:Int)<lenI it by simp only[lenI];omega))).trans ((val_yes (inR hi)).trans ?_)
  unfold chkAt at hp
  cases h0:((itemAt it i).1==(0:Int))
  ·refine(val_yes (show((itemAt it i).1 != (0:Int))=true by unfold bne;rw[h0];rfl)).trans ?_
   dsimp only
   rw[w64_id (n:=(i:Int)+1) (by omega) (by omega)]
   rfl
  ·rw[h0,Bool.true_and] at hp
   refine(val_no (show((itemAt it i).1 != (0:Int))=false by unfold bne;rw[h0];rfl)).trans ((val_no hp).trans ?_)
   dsimp only
   rw[w64_id (n:=(i:Int)+1) (by omega) (by omega)]
   rfl
 ·unfold chkAt at hp
  rw[Bool.and_eq_true] at hp
  exact(val_yes (dec_true (show(i:Int)<lenI it by simp only[lenI];omega))).trans ((val_yes (inR hi)).trans ((val_no (show((itemAt it i).1 != (0:Int))=false by unfold bne;rw[hp.1];rfl)).trans ((val_yes hp.2).trans rfl)))
 ·exact(val_no (dec_false (show ¬((it.length:Nat):Int)<lenI it by simp only[lenI];omega))).trans rfl
theorem items_ok (m:List (Int×Int)):qbH () ((it,b,(),w),m,zs)=true∧qa () ((it,b,(),w),m,zs)=(codeI it,(it,b,(),w),m,zs):=by
 have h:(qcE () ((it,b,(),w),m,zs)).val=some (codeI it,(it,b,(),w),m,zs):=by
  refine(val_opt (items2 it b w zs hn m)).trans ?_
  unfold codeI
  cases firstP (badJ it) it.length with
  |some k=>rfl
  |none =>
   refine(val_yes rfl).trans ((val_opt (items8 it hn)).trans ?_)
   cases firstP (chkAt it) it.length with
   |some k=>rfl
   |none=>rfl
 exact⟨by unfold qbH;rw[h];rfl,by unfold qa PO.getO;rw[h];rfl⟩
theorem names2:LoopN.res qch ((),0,it,lenI it,0) ((it,b,(),w),[],zs)=some (match firstP (dupAt it) it.length with
  |some k=>(1,(13,(k:Int),(it,b,(),w),mapTo it k,zs))
  |none=>(0,(0,(it.length:Int),(it,b,(),w),mapTo it it.length,zs))):=by
 unfold LoopN.res
 refine scan_run (turn:=qch.turn ((),0,it,lenI it,0) ((it,b,(),w),[],zs)) (fun i=>((0:Int),(i:Int),(it,b,(),w),mapTo it i,zs)) (dupAt it) it.length (fun k=>(1,(13,(k:Int),(it,b,(),w),mapTo it k,zs))) (0,(0,(it.length:Int),(it,b,(),w),mapTo it it.length,zs)) (fun i hi hb hp=>?_) (fun i hi hb hp=>?_) (fun _=>?_) _ (Nat.lt_succ_self _)
 ·refine(val_yes (dec_true (show(i:Int)<lenI it by simp only[lenI];omega))).trans ((val_yes (inR hi)).trans ?_)
  unfold dupAt at hp
  cases h1:((itemAt it i).1==(1:Int))
  ·refine(val_yes (show((itemAt it i).1 != (1:Int))=true by unfold bne;rw[h1];rfl)).trans ?_
   dsimp only
   have hm:mapTo it (i+1)=mapTo it i:=by simp only[mapTo,h1,cond_false]
   rw[w64_id (n:=(i:Int)+1) (by omega) (by omega),hm]
   rfl
  ·rw[h1,Bool.true_and] at hp
   refine(val_no (show((itemAt it i).1 != (1:Int))=false by unfold bne;rw[h1];rfl)).trans ((val_no ?_).trans ?_)
   ·show mhas (mapTo it i) (itemAt it i).2.1=false
    unfold mhas
    rw[map_get it _ i hb,Option.isSome_map]
    exact hp
   ·dsimp only
    have hm:mapTo it (i+1)=mput (mapTo it i) (itemAt it i).2.1 (i:Int):=by simp only[mapTo,h1,cond_true]
    rw[w64_id (n:=(i:Int)+1) (by omega) (by omega),hm]
    rfl
 ·unfold dupAt at hp
  rw[Bool.and_eq_true] at hp
  refine(val_yes (dec_true (show(i:Int)<lenI it by simp only[lenI];omega))).trans ((val_yes (inR hi)).trans ((val_no (show((itemAt it i).1 != (1:Int))=false by unfold bne;rw[hp.1];rfl)).trans ((val_yes ?_).trans rfl)))
  show mhas (mapTo it i) (itemAt it i).2.1=true
  unfold mhas
  rw[map_get it _ i hb,Option.isSome_map]
  exact hp.2
 ·exact(val_no (dec_false (show ¬((it.length:Nat):Int)<lenI it by simp only[lenI];omega))).trans rfl
theorem names11 (hd:∀i,i<it.length→dupAt it i=false):LoopN.res qbX ((),0,it,lenI it,0) ((it,b,(),w),mapTo it it.length,zs)=some (match firstP (missAt it) it.length with
  |some k=>(1,(12,(k:Int),(it,b,(),w),mapTo it it.length,zs))
  |none=>(0,(0,(it.length:Int),(it,b,(),w),mapTo it it.length,zs))):=by
 unfold LoopN.res
 have ht:∀i,((itemAt it i).1==2&&!mhas (mapTo it it.length) (itemAt it i).2.1)=missAt it i:=fun i=>by
  unfold missAt mhas
  rw[map_get it _ it.length hd,Option.isSome_map]
  cases firstP (isLab it (itemAt it i).2.1) it.length<;>rfl
 refine scan_run (turn:=qbX.turn ((),0,it,lenI it,0) ((it,b,(),w),mapTo it it.length,zs)) (fun i=>((0:Int),(i:Int),(it,b,(),w),mapTo it it.length,zs)) (missAt it) it.length (fun k=>(1,(12,(k:Int),(it,b,(),w),mapTo it it.length,zs))) (0,(0,(it.length:Int),(it,b,(),w),mapTo it it.length,zs)) (fun i hi _ hp=>?_) (fun i hi _ hp=>?_) (fun _=>?_) _ (Nat.lt_succ_self _)
 ·refine(val_yes (dec_true (show(i:Int)<lenI it by simp only[lenI];omega))).trans ((val_yes (inR hi)).trans ((val_no ((ht i).trans hp)).trans ?_))
  dsimp only
  rw[w64_id (n:=(i:Int)+1) (by omega) (by omega)]
  rfl
 ·exact(val_yes (dec_true (show(i:Int)<lenI it by simp only[lenI];omega))).trans ((val_yes (inR hi)).trans ((val_yes ((ht i).trans hp)).trans rfl))
 ·exact(val_no (dec_false (show ¬((it.length:Nat):Int)<lenI it by simp only[lenI];omega))).trans rfl
theorem names_ok:∃m,qbC () ((it,b,(),w),[],zs)=true∧qf () ((it,b,(),w),[],zs)=(codeN it,(it,b,(),w),m,zs)∧(codeN it=0→m=mapTo it it.length):=by
 have h:∃m,(qcJ () ((it,b,(),w),[],zs)).val=some (codeN it,(it,b,(),w),m,zs)∧(codeN it=0→m=mapTo it it.length):=by
  have e2:=names2 it b w zs hn
  unfold codeN
  cases hf:firstP (dupAt it) it.length with
  |some k =>
   rw[hf] at e2
   exact⟨mapTo it k,(val_opt e2).trans rfl,fun h=>by cases h⟩
  |none =>
   rw[hf] at e2
   have e11:=names11 it b w zs hn (firstP_none hf)
   refine⟨mapTo it it.length,(val_opt e2).trans ((val_yes rfl).trans ((val_opt e11).trans ?_)),fun _=>rfl⟩
   cases firstP (missAt it) it.length with
   |some k=>rfl
   |none=>rfl
 obtain⟨m,h,hm⟩:=h
 exact⟨m,by unfold qbC;rw[h];rfl,by unfold qf PO.getO;rw[h];rfl,hm⟩
theorem great3 (m:List (Int×Int)):LoopN.res qcf ((),(0,it.length),(it.length:Int),0) ((it,b,(),w),List.replicate it.length false,m,zs)=some (0,((it.length:Int),(it,b,(),w),List.replicate it.length true,m,zs)):=by
 unfold LoopN.res
 have hlen:(List.replicate it.length false).length=it.length:=by simp
 have key:=runL_count (turn:=qcf.turn ((),(0,it.length),(it.length:Int),0) ((it,b,(),w),List.replicate it.length false,m,zs)) (fun k=>((k:Int),(it,b,(),w),List.replicate k true++List.replicate (it.length-k) false,m,zs)) (0,((it.length:Int),(it,b,(),w),List.replicate it.length true,m,zs)) (n:=it.length) (fun k hk=>?_) ?_ it.length 0 (by omega) (List.length (List.replicate it.length false)+1) (by simp)
 ·exact key
 ·refine(val_yes (dec_true (show(k:Int)<(it.length:Int) by omega))).trans ((val_yes (inR hk)).trans ?_)
  dsimp only
  have hs:List.set (List.replicate k true++List.replicate (it.length-k) false) (nplus 0 (k:Int)) true=List.replicate (k+1) true++List.replicate (it.length-(k+1)) false:=by
   unfold nplus
   rw[Int.toNat_natCast,Nat.zero_add,List.set_append_right _ _ (by simp),List.length_replicate,Nat.sub_self]
   obtain⟨r,hr⟩:∃r,it.length-k=r+1:=⟨it.length-k-1,by omega⟩
   rw[hr,List.replicate_succ,List.set_cons_zero,show it.length-(k+1)=r by omega,List.replicate_succ',List.append_assoc]
   rfl
  rw[hs,w64_id (n:=(k:Int)+1) (by omega) (by omega)]
  rfl
 ·refine(val_no (dec_false (show ¬((it.length:Nat):Int)<(it.length:Int) by omega))).trans ?_
  dsimp only
  rw[Nat.sub_self]
  simp
  rfl
theorem great_ok (m:List (Int×Int)):qbM () ((it,b,(),w),m,zs)=true∧qC () ((it,b,(),w),m,zs)=(decide (posI it 0 (allT it) it.length > 262144),(it,b,(),w),m,zs):=by
 have e1:nspan 0 (lenI it)=it.length:=by simp[nspan,lenI]
 have e2:zeros (lenI it) false=List.replicate it.length false:=by simp[zeros,lenI]
 have e3:shown (List.replicate it.length true) (0,it.length)=allT it:=by simp[shown,allT]
 obtain⟨l1,l2⟩:=alay_run it 0 (allT it) hn (by omega)
 have hlen:(layM it 0 (allT it)).length=it.length+1:=layTo_len _ _ _ _
 have hget:List.getD (layM it 0 (allT it)) it.length 0=posI it 0 (allT it) it.length:=by
  unfold layM layTo
  rw[List.getD_eq_getElem?_getD,List.getElem?_map,List.getElem?_range (Nat.lt_succ_self _)]
  rfl
 have h:(qbE () ((it,b,(),w),m,zs)).val=some (decide (posI it 0 (allT it) it.length > 262144),(it,b,(),w),m,zs):=by
  unfold qbE
  dsimp only
  rw[e1,e2]
  refine(val_yes ?_).trans ((val_opt (great3 it b w zs hn m)).trans ?_)
  ·simp only[roomOk,lenI]
   simp
   omega
  ·dsimp only
   rw[e3,l1,l2,hlen]
   refine(val_yes ?_).trans ?_
   ·rw[Bool.true_and]
    exact inR (Nat.lt_succ_self _)
   ·show some (decide (List.getD (layM it 0 (allT it)) (Int.toNat (it.length:Int)) 0 > 262144),(it,b,(),w),m,zs)=_
    rw[Int.toNat_natCast,hget]
 exact⟨by unfold qbM;rw[h];rfl,by unfold qC PO.getO;rw[h];rfl⟩
theorem check_ran:∃m,qbI () ((it,b,(),w),[],zs)=true∧qbF () ((it,b,(),w),[],zs)=(codeM it b,(it,b,(),w),m,zs)∧(codeM it b=0→m=mapTo it it.length):=by
 have h:∃m,(qbK () ((it,b,(),w),[],zs)).val=some (codeM it b,(it,b,(),w),m,zs)∧(codeM it b=0→m=mapTo it it.length):=by
  obtain⟨i1,i2⟩:=items_ok it b w zs hn []
  obtain⟨m,n1,n2,n3⟩:=names_ok it b w zs hn
  obtain⟨g1,g2⟩:=great_ok it b w zs hn m
  unfold qbK
  dsimp only
  rw[i2]
  dsimp only
  rw[n2]
  dsimp only
  rw[g2]
  dsimp only
  have hbase:(decide (b<0)||(decide (b > 262144)||band IntKind.i64 b 1 != 0))=baseBad b:=by
   unfold baseBad
   rw[even_i64]
  cases hb:baseBad b
  ·have hc:codeM it b=bif codeI it != 0 then codeI it else bif codeN it != 0 then codeN it else bif decide (posI it 0 (allT it) it.length > 262144) then 5 else 0:=by
    unfold codeM codeI codeN
    rw[hb,cond_false]
    cases firstP (badJ it) it.length with
    |some k=>rfl
    |none =>
     cases hf:firstP (chkAt it) it.length with
     |some k =>
      obtain⟨_,hk,_⟩:=firstP_some hf
      unfold chkAt at hk
      rw[Bool.and_eq_true] at hk
      dsimp only
      rw[hk.2]
      rfl
     |none =>
      cases firstP (dupAt it) it.length with
      |some k=>rfl
      |none =>
       cases firstP (missAt it) it.length with
       |some k=>rfl
       |none=>rfl
   rw[hc]
   cases hi:(codeI it != 0)
   ·cases hm:(codeN it != 0)
    ·have hn0:codeN it=0:=by simpa using hm
     refine⟨m,(val_no (hbase.trans hb)).trans ((val_yes i1).trans ((val_no rfl).trans ((val_yes n1).trans ((val_no rfl).trans ((val_yes g1).trans ?_))))),fun _=>n3 hn0⟩
     cases hg:decide (posI it 0 (allT it) it.length > 262144)<;>rfl
    ·exact⟨m,(val_no (hbase.trans hb)).trans ((val_yes i1).trans ((val_no rfl).trans ((val_yes n1).trans ((val_yes rfl).trans rfl)))),fun h=>by
      rw[cond_false,cond_true] at h
      rw[h] at hm
      cases hm⟩
   ·exact⟨[],(val_no (hbase.trans hb)).trans ((val_yes i1).trans ((val_yes rfl).trans rfl)),fun h=>by
     rw[cond_true] at h
     rw[h] at hi
     cases hi⟩
  ·have hc:codeM it b=2:=by
    unfold codeM
    rw[hb]
    rfl
   rw[hc]
   exact⟨[],(val_yes (hbase.trans hb)).trans rfl,fun h=>by cases h⟩
 obtain⟨m,h,hm⟩:=h
 exact⟨m,by unfold qbI;rw[h];rfl,by unfold qbF PO.getO;rw[h];rfl,hm⟩
end
end Go.Av
namespace Go.Av
open Go
def cntT:List Bool→Nat
 |[]=>0
 |x::l=>(bif x then 1 else 0)+cntT l
theorem cntT_le:∀l:List Bool,cntT l≤l.length
 |[]=>Nat.le_refl _
 |x::l=>by
  have:=cntT_le l
  simp only[cntT,List.length_cons]
  cases x<;>simp only[cond_true,cond_false]<;>omega
theorem cntT_set:∀(l:List Bool) (i:Nat),i<l.length→wd l i=false→cntT (l.set i true)=cntT l+1
 |[],_,h,_=>absurd h (Nat.not_lt_zero _)
 |x::l,0,_,h=>by
  have:x=false:=h
  subst this
  simp only[List.set_cons_zero,cntT,cond_true,cond_false]
  omega
 |x::l,i+1,h,hw=>by
  have h1:i<l.length:=by simpa using h
  have h2:wd l i=false:=hw
  simp only[List.set_cons_succ,cntT]
  rw[cntT_set l i h1 h2]
  omega
def tgt (it:List tItem.den) (i:Nat):Nat:=(firstP (isLab it (itemAt it i).2.1) it.length).getD 0
def offM (it:List tItem.den) (b:Int) (ws:List Bool) (i:Nat):Int:=posI it b ws (tgt it i)-posI it b ws i-4
def outR (it:List tItem.den) (b:Int) (ws:List Bool) (i:Nat):Bool:=decide (offM it b ws i<(qN ((itemAt it i).2.2.1.1,false)).1)||decide (offM it b ws i > (qN ((itemAt it i).2.2.1.1,false)).2.1)
def passTo (it:List tItem.den) (b:Int) (ws0:List Bool):Nat→Bool×List Bool
 |0=>(false,ws0)
 |i+1=>bif (itemAt it i).1 != 2||wd (passTo it b ws0 i).2 i then passTo it b ws0 i else bif outR it b ws0 i then(true,(passTo it b ws0 i).2.set i true) else passTo it b ws0 i
theorem pass_len (it:List tItem.den) (b:Int) (ws0:List Bool):∀i,(passTo it b ws0 i).2.length=ws0.length
 |0=>rfl
 |i+1=>by
  have ih:=pass_len it b ws0 i
  simp only[passTo]
  cases ((itemAt it i).1 != (2:Int)||wd (passTo it b ws0 i).2 i)
  ·cases outR it b ws0 i
   ·exact ih
   ·simp only[cond_true,cond_false,List.length_set];exact ih
  ·exact ih
theorem pass_cnt (it:List tItem.den) (b:Int) (ws0:List Bool):∀i,i≤ws0.length→cntT ws0+(bif (passTo it b ws0 i).1 then 1 else 0)≤cntT (passTo it b ws0 i).2
 |0,_=>Nat.le_refl _
 |i+1,hi=>by
  have ih:=pass_cnt it b ws0 i (by omega)
  have hl:=pass_len it b ws0 i
  simp only[passTo]
  cases h1:((itemAt it i).1 != (2:Int)||wd (passTo it b ws0 i).2 i)
  ·cases outR it b ws0 i
   ·exact ih
   ·rw[Bool.or_eq_false_iff] at h1
    simp only[cond_true,cond_false]
    rw[cntT_set _ i (by omega) h1.2]
    omega
  ·exact ih
theorem pass_same (it:List tItem.den) (b:Int) (ws0:List Bool):∀i,(passTo it b ws0 i).1=false→(passTo it b ws0 i).2=ws0
 |0,_=>rfl
 |i+1,h=>by
  have ih:=pass_same it b ws0 i
  simp only[passTo] at h ⊢
  cases h1:((itemAt it i).1 != (2:Int)||wd (passTo it b ws0 i).2 i)<;>rw[h1] at h
  ·cases h2:outR it b ws0 i<;>rw[h2] at h
   ·exact ih h
   ·cases h
  ·exact ih h
section
variable (it:List tItem.den) (b:Int) (ws:List Bool) (hn:it.length≤21000) (hb:0≤b∧b≤262144) (hm:∀i,i<it.length→missAt it i=false)
include hn hb
omit hn hb in
theorem lay_len:(layM it b ws).length=it.length+1:=layTo_len _ _ _ _
omit hn hb in
theorem lay_get {i:Nat} (hi:i≤it.length):List.getD (layM it b ws) i 0=posI it b ws i:=by
 unfold layM layTo
 rw[List.getD_eq_getElem?_getD,List.getElem?_map,List.getElem?_range (Nat.lt_succ_of_le hi)]
 rfl
omit hb in
theorem off_w64 {i k:Nat} (hi:i<it.length) (hk:k<it.length):w64 (w64 (posI it b ws k-posI it b ws i)-4)=posI it b ws k-posI it b ws i-4:=by
 have h1:=pos_bound it b ws i
 have h2:=pos_bound it b ws k
 rw[w64_id (n:=posI it b ws k-posI it b ws i) (by omega) (by omega),w64_id (by omega) (by omega)]
include hm
omit hn hb in
theorem tgt_some {i:Nat} (hi:i<it.length) (h2:((itemAt it i).1 != (2:Int))=false):firstP (isLab it (itemAt it i).2.1) it.length=some (tgt it i)∧tgt it i<it.length:=by
 have h:=hm i hi
 unfold missAt at h
 have h2':((itemAt it i).1==(2:Int))=true:=by
  unfold bne at h2
  simpa using h2
 rw[h2',Bool.true_and] at h
 cases hf:firstP (isLab it (itemAt it i).2.1) it.length with
 |none=>rw[hf] at h;cases h
 |some k =>
  have:tgt it i=k:=by unfold tgt;rw[hf];rfl
  rw[this]
  exact⟨rfl,(firstP_some hf).1⟩
omit hb in
theorem aoff_run (hd:∀i,i<it.length→dupAt it i=false) {i:Nat} (hi:i<it.length) (h2:((itemAt it i).1 != (2:Int))=false):qcw (it,mapTo it it.length,layM it b ws,(i:Int))=true∧qF (it,mapTo it it.length,layM it b ws,(i:Int))=offM it b ws i:=by
 obtain⟨t1,t2⟩:=tgt_some it hm hi h2
 have hv:mval (mapTo it it.length) (itemAt it i).2.1=((tgt it i:Nat):Int):=by
  unfold mval
  rw[map_get it _ it.length hd,t1]
  rfl
 constructor
 ·show(inRange (i:Int) (List.length it)&&(inRange (mval (mapTo it it.length) (itemAt it i).2.1) (List.length (layM it b ws))&&inRange (i:Int) (List.length (layM it b ws))))=true
  rw[hv,inR hi,lay_len,inR (show i<it.length+1 by omega),inR (show tgt it i<it.length+1 by omega)]
  rfl
 ·show w64 (w64 (List.getD (layM it b ws) (Int.toNat (mval (mapTo it it.length) (itemAt it i).2.1)) 0-List.getD (layM it b ws) (Int.toNat (i:Int)) 0)-4)=_
  rw[hv,Int.toNat_natCast,Int.toNat_natCast,lay_get it b ws (Nat.le_of_lt t2),lay_get it b ws (Nat.le_of_lt hi),off_w64 it b ws hn hi t2]
  rfl
end
end Go.Av
namespace Go.Av
open Go
section
variable (it:List tItem.den) (b:Int) (ws:List Bool) (hn:it.length≤21000) (hb:0≤b∧b≤262144) (hm:∀i,i<it.length→missAt it i=false) (hw:ws.length=it.length)
include hn hm hw
omit hn hm hw in
theorem wget (i:Nat):List.getD (passTo it b ws i).2 (nplus 0 (i:Int)) false=wd (passTo it b ws i).2 i:=by
 unfold nplus wd
 rw[Int.toNat_natCast,Nat.zero_add]
theorem asm_pass (hd:∀i,i<it.length→dupAt it i=false):LoopN.res qb9 ((),layM it b ws,false,it,lenI it,0) ((it,b,(),((0,it.length),())),mapTo it it.length,ws) =
  some (0,((passTo it b ws it.length).1,(it.length:Int),(it,b,(),((0,it.length),())),mapTo it it.length,(passTo it b ws it.length).2)):=by
 unfold LoopN.res
 refine runL_count (turn:=qb9.turn ((),layM it b ws,false,it,lenI it,0) ((it,b,(),((0,it.length),())),mapTo it it.length,ws)) (fun i=>((passTo it b ws i).1,(i:Int),(it,b,(),((0,it.length),())),mapTo it it.length,(passTo it b ws i).2)) (0,((passTo it b ws it.length).1,(it.length:Int),(it,b,(),((0,it.length),())),mapTo it it.length,(passTo it b ws it.length).2)) (n:=it.length) (fun i hi=>?_) ?_ it.length 0 (by omega) _ (Nat.lt_succ_self _)
 ·refine(val_yes (dec_true (show(i:Int)<lenI it by simp only[lenI];omega))).trans ((val_yes (inR hi)).trans ((val_yes ?_).trans ?_))
  ·show((itemAt it i).1 != 2||inRange (i:Int) it.length)=true
   rw[inR hi,Bool.or_true]
  cases ht:((itemAt it i).1 != (2:Int)||wd (passTo it b ws i).2 i)
  ·have h2:=(Bool.or_eq_false_iff.1 ht).1
   obtain⟨o1,o2⟩:=aoff_run it b ws hn hm hd hi h2
   refine(val_no (show((itemAt it i).1 != 2||List.getD (passTo it b ws i).2 (nplus 0 (i:Int)) false)=false by rw[wget it b ws];exact ht)).trans ((val_yes o1).trans ?_)
   cases ho:outR it b ws i
   ·refine(val_no ?_).trans ?_
    ·show(decide (qF (it,mapTo it it.length,layM it b ws,(i:Int))<(qN ((itemAt it i).2.2.1.1,false)).1)||decide (qF (it,mapTo it it.length,layM it b ws,(i:Int)) > (qN ((itemAt it i).2.2.1.1,false)).2.1))=false
     rw[o2]
     exact ho
    ·have e:passTo it b ws (i+1)=passTo it b ws i:=by simp only[passTo,ht,ho,cond_false]
     dsimp only
     rw[e,w64_id (n:=(i:Int)+1) (by omega) (by omega)]
     rfl
   ·refine(val_yes ?_).trans ((val_yes (inR hi)).trans ?_)
    ·show(decide (qF (it,mapTo it it.length,layM it b ws,(i:Int))<(qN ((itemAt it i).2.2.1.1,false)).1)||decide (qF (it,mapTo it it.length,layM it b ws,(i:Int)) > (qN ((itemAt it i).2.2.1.1,false)).2.1))=true
     rw[o2]
     exact ho
    ·have e:passTo it b ws (i+1)=(true,(passTo it b ws i).2.set (nplus 0 (i:Int)) true):=by
      unfold nplus
      rw[Int.toNat_natCast,Nat.zero_add]
      simp only[passTo,ht,ho,cond_false,cond_true]
     dsimp only
     rw[e,w64_id (n:=(i:Int)+1) (by omega) (by omega)]
     rfl
  ·refine(val_yes (show((itemAt it i).1 != 2||List.getD (passTo it b ws i).2 (nplus 0 (i:Int)) false)=true by rw[wget it b ws];exact ht)).trans ?_
   have e:passTo it b ws (i+1)=passTo it b ws i:=by simp only[passTo,ht,cond_true]
   dsimp only
   rw[e,w64_id (n:=(i:Int)+1) (by omega) (by omega)]
   rfl
 ·exact(val_no (dec_false (show ¬((it.length:Nat):Int)<lenI it by simp only[lenI];omega))).trans rfl
include hb
theorem widen_run (hd:∀i,i<it.length→dupAt it i=false):qbD () ((it,b,(),((0,it.length),())),mapTo it it.length,ws)=true ∧
  qv () ((it,b,(),((0,it.length),())),mapTo it it.length,ws)=((passTo it b ws it.length).1,(it,b,(),((0,it.length),())),mapTo it it.length,(passTo it b ws it.length).2):=by
 have e3:shown ws (0,it.length)=ws:=by simp[shown,←hw]
 obtain⟨l1,l2⟩:=alay_run it b ws hn hb
 have h:(qbL () ((it,b,(),((0,it.length),())),mapTo it it.length,ws)).val=some ((passTo it b ws it.length).1,(it,b,(),((0,it.length),())),mapTo it it.length,(passTo it b ws it.length).2):=by
  unfold qbL
  dsimp only
  rw[e3,l2]
  exact(val_yes l1).trans ((val_opt (asm_pass it b ws hn hm hw hd)).trans rfl)
 exact⟨by unfold qbD;rw[h];rfl,by unfold qv PO.getO;rw[h];rfl⟩
end
def widesAt (it:List tItem.den) (b:Int):Nat→List Bool
 |0=>List.replicate it.length false
 |k+1=>(passTo it b (widesAt it b k) it.length).2
def moreAt (it:List tItem.den) (b:Int) (k:Nat):Bool:=(passTo it b (widesAt it b k) it.length).1
theorem widesAt_len (it:List tItem.den) (b:Int):∀k,(widesAt it b k).length=it.length
 |0=>by simp[widesAt]
 |k+1=>by
  simp only[widesAt]
  rw[pass_len,widesAt_len it b k]
theorem widesAt_cnt (it:List tItem.den) (b:Int):∀k,(∀j,j<k→moreAt it b j=true)→k≤cntT (widesAt it b k)
 |0,_=>Nat.zero_le _
 |k+1,h=>by
  have ih:=widesAt_cnt it b k (fun j hj=>h j (by omega))
  have h1:=h k (Nat.lt_succ_self k)
  have h2:=pass_cnt it b (widesAt it b k) it.length (by rw[widesAt_len];exact Nat.le_refl _)
  unfold moreAt at h1
  rw[h1] at h2
  simp only[widesAt]
  simp only[cond_true] at h2
  omega
theorem passes_end (it:List tItem.den) (b:Int):∃K,K≤it.length∧(∀k,k<K→moreAt it b k=true)∧moreAt it b K=false:=by
 cases h:firstP (fun k=>!moreAt it b k) (it.length+1) with
 |some K =>
  obtain⟨h1,h2,h3⟩:=firstP_some h
  exact⟨K,by omega,fun k hk=>by simpa using h3 k hk,by simpa using h2⟩
 |none =>
  have h1:=widesAt_cnt it b (it.length+1) (fun j hj=>by simpa using firstP_none h j hj)
  have h2:=cntT_le (widesAt it b (it.length+1))
  rw[widesAt_len] at h2
  omega
end Go.Av
namespace Go.Av
open Go
theorem enc_len (x:tIns.den) (v:List UInt8×Int×Unit) (h:(qbd x).val=some v):v.1.length≤4:=by
 unfold qbd at h
 cases h1:(qd x != (0:Int))
 ·replace h:=(val_no h1).symm.trans h
  cases h2:qcx x
  ·replace h:=(val_no h2).symm.trans h
   cases h
  ·replace h:=(val_yes h2).symm.trans h
   cases h3:(qQ x).2.2.1
   ·replace h:=(val_no h3).symm.trans h
    cases h
    exact(by decide:2≤4)
   ·replace h:=(val_yes h3).symm.trans h
    replace h:=(val_yes (show Nat.ble (List.length (qS (qQ x).1)+List.length (qS (qQ x).2.1)) 9223372036854775807=true from rfl)).symm.trans h
    cases h
    show(qS (qQ x).1++qS (qQ x).2.1).length≤4
    rw[List.length_append]
    exact Nat.le_refl 4
 ·replace h:=(val_yes h1).symm.trans h
  cases h
  exact Nat.zero_le _
def encV (x:tIns.den):List UInt8:=(q7 x).1
theorem enc_both (x:tIns.den):qdd x=true∧qhu x=true∧(qeT x).1=encV x∧(encV x).length≤4:=by
 obtain⟨op,rd,rn,rm,ra,imm,cond,w,u⟩:=x
 obtain⟨v,h1,h2⟩:=enc_same op rd rn rm ra imm cond w
 have e1:q7 (op,rd,rn,rm,ra,imm,cond,w,())=v:=by unfold q7 PO.getO;rw[h1];rfl
 have e2:qeT (op,rd,rn,rm,ra,imm,cond,w,())=v:=by unfold qeT PO.getO;rw[h2];rfl
 refine⟨by unfold qdd;exact h1▸rfl,by unfold qhu;exact h2▸rfl,?_,?_⟩
 ·unfold encV
  exact congrArg Prod.fst (e2.trans e1.symm)
 ·unfold encV
  show(q7 (op,rd,rn,rm,ra,imm,cond,w,())).1.length≤4
  rw[e1]
  exact enc_len _ v h1
def insM (it:List tItem.den) (b:Int) (ws:List Bool) (i:Nat):tIns.den:=bif (itemAt it i).1==2 then((itemAt it i).2.2.1.1,0,0,0,0,offM it b ws i,(itemAt it i).2.2.1.2.2.2.2.2.2.1,wd ws i,()) else(itemAt it i).2.2.1
def placesTo (it:List tItem.den) (b:Int) (ws:List Bool):Nat→List tPlace.den
 |0=>[]
 |i+1=>bif (itemAt it i).1==1 then placesTo it b ws i++[((itemAt it i).2.1,posI it b ws i,())] else placesTo it b ws i
def bytesTo (it:List tItem.den) (b:Int) (ws:List Bool):Nat→List UInt8
 |0=>[]
 |i+1=>bif (itemAt it i).1==1 then bytesTo it b ws i else bytesTo it b ws i++encV (insM it b ws i)
theorem places_len (it:List tItem.den) (b:Int) (ws:List Bool):∀i,(placesTo it b ws i).length≤i
 |0=>Nat.le_refl _
 |i+1=>by
  have ih:=places_len it b ws i
  simp only[placesTo]
  cases ((itemAt it i).1==(1:Int))
  ·simp only[cond_false];omega
  ·simp only[cond_true,List.length_append,List.length_cons,List.length_nil];omega
theorem bytes_len (it:List tItem.den) (b:Int) (ws:List Bool):∀i,(bytesTo it b ws i).length≤4*i
 |0=>Nat.le_refl _
 |i+1=>by
  have ih:=bytes_len it b ws i
  have h:=(enc_both (insM it b ws i)).2.2.2
  simp only[bytesTo]
  cases ((itemAt it i).1==(1:Int))
  ·simp only[cond_false,List.length_append];omega
  ·simp only[cond_true];omega
section
variable (it:List tItem.den) (b:Int) (ws:List Bool) (hn:it.length≤21000) (hm:∀i,i<it.length→missAt it i=false) (hw:ws.length=it.length)
include hn hm hw
theorem asm_emit (hd:∀i,i<it.length→dupAt it i=false):LoopN.res qdF ((),layM it b ws,(),[],it,lenI it,0) ((it,b,(),((0,it.length),())),((),[],()),mapTo it it.length,ws) =
  some (0,(placesTo it b ws it.length,(it.length:Int),(it,b,(),((0,it.length),())),((),bytesTo it b ws it.length,()),mapTo it it.length,ws)):=by
 unfold LoopN.res
 have hfit:∀i,i<it.length→∀x,qcC (bytesTo it b ws i) (q7 x).1=true:=fun i hi x=>by
  have h1:=bytes_len it b ws i
  have h2:(q7 x).1.length≤4:=(enc_both x).2.2.2
  refine Nat.ble_eq_true_of_le ?_
  omega
 refine runL_count (turn:=qdF.turn ((),layM it b ws,(),[],it,lenI it,0) ((it,b,(),((0,it.length),())),((),[],()),mapTo it it.length,ws)) (fun i=>(placesTo it b ws i,(i:Int),(it,b,(),((0,it.length),())),((),bytesTo it b ws i,()),mapTo it it.length,ws)) (0,(placesTo it b ws it.length,(it.length:Int),(it,b,(),((0,it.length),())),((),bytesTo it b ws it.length,()),mapTo it it.length,ws)) (n:=it.length) (fun i hi=>?_) ?_ it.length 0 (by omega) _ (Nat.lt_succ_self _)
 ·refine(val_yes (dec_true (show(i:Int)<lenI it by simp only[lenI];omega))).trans ((val_yes (inR hi)).trans ?_)
  cases h1:((itemAt it i).1==(1:Int))
  ·have ep:placesTo it b ws (i+1)=placesTo it b ws i:=by simp only[placesTo,h1,cond_false]
   have eb:bytesTo it b ws (i+1)=bytesTo it b ws i++encV (insM it b ws i):=by simp only[bytesTo,h1,cond_false]
   refine(val_no h1).trans ?_
   cases h2:((itemAt it i).1==(2:Int))
   ·have ei:insM it b ws i=(itemAt it i).2.2.1:=by unfold insM;rw[h2];rfl
    refine(val_no h2).trans ((val_yes (enc_both _).1).trans ((val_yes (hfit i hi _)).trans ?_))
    dsimp only
    rw[ep,eb,ei,w64_id (n:=(i:Int)+1) (by omega) (by omega)]
    rfl
   ·have h2':((itemAt it i).1 != (2:Int))=false:=by unfold bne;rw[h2];rfl
    obtain⟨o1,o2⟩:=aoff_run it b ws hn hm hd hi h2'
    have ei:insM it b ws i=((itemAt it i).2.2.1.1,0,0,0,0,qF (it,mapTo it it.length,layM it b ws,(i:Int)),(itemAt it i).2.2.1.2.2.2.2.2.2.1,List.getD ws (nplus 0 (i:Int)) false,()):=by
     unfold insM
     rw[h2,o2]
     unfold nplus wd
     rw[Int.toNat_natCast,Nat.zero_add]
     rfl
    refine(val_yes h2).trans ((val_yes o1).trans ((val_yes (inR hi)).trans ((val_yes (enc_both _).1).trans ((val_yes (hfit i hi _)).trans ?_))))
    dsimp only
    rw[ep,eb,ei,w64_id (n:=(i:Int)+1) (by omega) (by omega)]
    rfl
  ·have ep:placesTo it b ws (i+1)=placesTo it b ws i++[((itemAt it i).2.1,posI it b ws i,())]:=by simp only[placesTo,h1,cond_true]
   have eb:bytesTo it b ws (i+1)=bytesTo it b ws i:=by simp only[bytesTo,h1,cond_true]
   have hl:=places_len it b ws i
   refine(val_yes h1).trans ((val_yes ?_).trans ((val_yes ?_).trans ?_))
   ·show inRange (i:Int) (List.length (layM it b ws))=true
    rw[lay_len]
    exact inR (by omega)
   ·refine Nat.ble_eq_true_of_le ?_
    simp only[List.length_cons,List.length_nil]
    omega
   ·have eg:List.getD (layM it b ws) (Int.toNat (i:Int)) 0=posI it b ws i:=by rw[Int.toNat_natCast];exact lay_get it b ws (Nat.le_of_lt hi)
    rw[ep,eb]
    show some (TL.on (placesTo it b ws i++[((itemAt it i).2.1,List.getD (layM it b ws) (Int.toNat (i:Int)) 0,())],w64 ((i:Int)+1),(it,b,(),((0,it.length),())),((),bytesTo it b ws i,()),mapTo it it.length,ws))=_
    rw[eg,w64_id (n:=(i:Int)+1) (by omega) (by omega)]
    rfl
 ·exact(val_no (dec_false (show ¬((it.length:Nat):Int)<lenI it by simp only[lenI];omega))).trans rfl
end
end Go.Av
namespace Go.Av
open Go
theorem three (k:Int) (h1:¬k<0) (h2:¬k > 2):k=0∨k=1∨k=2:=by omega
section
variable (it:List tItem.den) (b:Int) (ws:List Bool) (hn:it.length≤21000) (hm:∀i,i<it.length→missAt it i=false) (hw:ws.length=it.length)
include hn hm hw
end
section
variable (it:List tItem.den) (b:Int) (hn:it.length≤21000) (hb:0≤b∧b≤262144) (hm:∀i,i<it.length→missAt it i=false) (K:Nat) (hK:K≤it.length) (h1:∀k,k<K→moreAt it b k=true) (h2:moreAt it b K=false)
include hn hb hm hK h1 h2
theorem asm_passes (hd:∀i,i<it.length→dupAt it i=false):LoopN.res qdX (it,b,()) ((it,b,(),((0,it.length),())),mapTo it it.length,List.replicate it.length false) =
  some (0,((it,b,(),((0,it.length),())),mapTo it it.length,widesAt it b (K+1))):=by
 unfold LoopN.res
 refine runL_count (turn:=qdX.turn (it,b,()) ((it,b,(),((0,it.length),())),mapTo it it.length,List.replicate it.length false)) (fun k=>((it,b,(),((0,it.length),())),mapTo it it.length,widesAt it b k)) (0,((it,b,(),((0,it.length),())),mapTo it it.length,widesAt it b (K+1))) (n:=K) (fun k hk=>?_) ?_ K 0 (by omega) (List.length it+2) (by omega)
 ·obtain⟨g1,g2⟩:=widen_run it b (widesAt it b k) hn hb hm (widesAt_len it b k) hd
  have hh:=h1 k hk
  unfold moreAt at hh
  refine(val_yes g1).trans ((val_no ?_).trans ?_)
  ·show(!(qv () ((it,b,(),((0,it.length),())),mapTo it it.length,widesAt it b k)).1)=false
   rw[g2,hh]
   rfl
  ·dsimp only
   rw[g2]
   rfl
 ·obtain⟨g1,g2⟩:=widen_run it b (widesAt it b K) hn hb hm (widesAt_len it b K) hd
  have hh:=h2
  unfold moreAt at hh
  refine(val_yes g1).trans ((val_yes ?_).trans ?_)
  ·show(!(qv () ((it,b,(),((0,it.length),())),mapTo it it.length,widesAt it b K)).1)=true
   rw[g2,hh]
   rfl
  ·dsimp only
   rw[g2]
   rfl
end
end Go.Av
end
section
namespace Go.Av
open Go
structure AsmFine (it:List tItem.den) (b:Int):Prop where
 base:baseBad b=false
 item:∀i,i<it.length→badJ it i=false
 chk:∀i,i<it.length→chkAt it i=false
 dup:∀i,i<it.length→dupAt it i=false
 miss:∀i,i<it.length→missAt it i=false
 small:posI it 0 (allT it) it.length≤262144
theorem fine_of (it:List tItem.den) (b:Int) (hc0:codeM it b=0):AsmFine it b:=by
 unfold codeM at hc0
 cases hbb:baseBad b
 ·rw[hbb,cond_false] at hc0
  cases hf1:firstP (badJ it) it.length with
  |some k=>rw[hf1] at hc0;cases hc0
  |none =>
   rw[hf1] at hc0
   cases hf2:firstP (chkAt it) it.length with
   |some k =>
    obtain⟨_,hk,_⟩:=firstP_some hf2
    unfold chkAt at hk
    rw[Bool.and_eq_true] at hk
    rw[hf2] at hc0
    dsimp only at hc0
    rw[hc0] at hk
    cases hk.2
   |none =>
    rw[hf2] at hc0
    cases hf3:firstP (dupAt it) it.length with
    |some k=>rw[hf3] at hc0;cases hc0
    |none =>
     rw[hf3] at hc0
     cases hf4:firstP (missAt it) it.length with
     |some k=>rw[hf4] at hc0;cases hc0
     |none =>
      rw[hf4] at hc0
      dsimp only at hc0
      cases hg:decide (posI it 0 (allT it) it.length > 262144)
      ·have:=of_decide_eq_false hg
       exact⟨hbb,firstP_none hf1,firstP_none hf2,firstP_none hf3,firstP_none hf4,by omega⟩
      ·rw[hg] at hc0;cases hc0
 ·rw[hbb] at hc0
  cases hc0
theorem fine_base {it:List tItem.den} {b:Int} (h:AsmFine it b):0≤b∧b≤262144∧b % 2=0:=by
 have f1:=h.base
 unfold baseBad at f1
 rw[Bool.or_eq_false_iff,Bool.or_eq_false_iff] at f1
 have h1:=of_decide_eq_false f1.1
 have h2:=of_decide_eq_false f1.2.1
 have h3:Int.tmod b 2=0:=by simpa using f1.2.2
 rw[Int.tmod_eq_emod_of_nonneg (by omega)] at h3
 omega
theorem asm_val (it:List tItem.den) (b:Int) (hn:it.length≤21000):qdb (it,b)=true ∧
  ((codeM it b≠0∧q9 (it,b)=([],[],codeM it b,())) ∨
   (AsmFine it b∧∃K,moreAt it b K=false∧q9 (it,b)=(bytesTo it b (widesAt it b K) it.length,placesTo it b (widesAt it b K) it.length,0,()))):=by
 have e1:nspan 0 (lenI it)=it.length:=by simp[nspan,lenI]
 have e2:zeros (lenI it) false=List.replicate it.length false:=by simp[zeros,lenI]
 obtain⟨m,c1,c2,c3⟩:=check_ran it b ((0,it.length),()) (List.replicate it.length false) hn
 have hroom:roomOk (lenI it) 1=true:=by
  simp only[roomOk,lenI]
  simp
  omega
 have k0:qho (it,b)=true:=by
  unfold qho
  dsimp only
  rw[e1,e2]
  exact c1
 have k1:qbW (it,b)=(codeM it b,(it,b,(),((0,it.length),())),m,List.replicate it.length false):=by
  unfold qbW
  dsimp only
  rw[e1,e2]
  exact c2
 cases hc:(codeM it b != 0)
 ·have hc0:codeM it b=0:=by simpa using hc
  have hmm:=c3 hc0
  subst hmm
  have hf:=fine_of it b hc0
  obtain⟨hb1,hb2,_⟩:=fine_base hf
  have hb:0≤b∧b≤262144:=⟨hb1,hb2⟩
  have hd:=hf.dup
  have hm:=hf.miss
  obtain⟨K,hK,h1,h2⟩:=passes_end it b
  have hsame:widesAt it b (K+1)=widesAt it b K:=pass_same it b (widesAt it b K) it.length h2
  have p5:=asm_passes it b hn hb hm K hK h1 h2 hd
  rw[hsame] at p5
  have hwl:=widesAt_len it b K
  have e3:shown (widesAt it b K) (0,it.length)=widesAt it b K:=by simp[shown,←hwl]
  obtain⟨l1,l2⟩:=alay_run it b (widesAt it b K) hn hb
  have k2:qhq (it,b)=some (0,((it,b,(),((0,it.length),())),mapTo it it.length,widesAt it b K)):=by
   unfold qhq
   rw[k1]
   exact p5
  have hv:(qcL (it,b)).val=some (bytesTo it b (widesAt it b K) it.length,placesTo it b (widesAt it b K) it.length,0,()):=by
   unfold qcL
   rw[k0,k1,k2]
   refine(val_yes hroom).trans ((val_yes rfl).trans ((val_no hc).trans ((val_opt rfl).trans ?_)))
   dsimp only
   rw[e3,l2]
   exact(val_yes l1).trans ((val_opt (asm_emit it b (widesAt it b K) hn hm hwl hd)).trans rfl)
  exact⟨by unfold qdb;rw[hv];rfl,.inr ⟨hf,K,h2,by unfold q9 PO.getO;rw[hv];rfl⟩⟩
 ·have hv:(qcL (it,b)).val=some ([],[],codeM it b,()):=by
   unfold qcL
   rw[k0,k1]
   exact(val_yes hroom).trans ((val_yes rfl).trans ((val_yes hc).trans rfl))
  exact⟨by unfold qdb;rw[hv];rfl,.inl ⟨by simpa using hc,by unfold q9 PO.getO;rw[hv];rfl⟩⟩
theorem pass_done (it:List tItem.den) (b:Int) (ws:List Bool):∀n,(passTo it b ws n).1=false→∀i,i<n→((itemAt it i).1 != (2:Int))=false→wd ws i=false→outR it b ws i=false
 |0,_,_,h,_,_=>absurd h (Nat.not_lt_zero _)
 |n+1,h,i,hi,h2,hw=>by
  have hs:(passTo it b ws n).1=false:=by
   simp only[passTo] at h
   cases h1:((itemAt it n).1 != (2:Int)||wd (passTo it b ws n).2 n)<;>rw[h1] at h
   ·cases h2:outR it b ws n<;>rw[h2] at h
    ·exact h
    ·cases h
   ·exact h
  have he:=pass_same it b ws n hs
  rcases Nat.lt_or_ge i n with h' |h'
  ·exact pass_done it b ws n hs i h' h2 hw
  ·have:i=n:=by omega
   subst this
   simp only[passTo] at h
   rw[he,h2,hw] at h
   cases h3:outR it b ws i
   ·rfl
   ·rw[h3] at h
    cases h
end Go.Av
end
section
namespace Go.Av
open Go
section
variable (op rd rn rm ra imm cond:Int) (w:Bool)
theorem e1_len (h:(qg (op,w)).length=16∨(qg (op,w)).length=32):(e1 op rd rn rm ra imm cond w).length=16:=by
 unfold e1;rw[hl_len,List.length_take];omega
theorem e2_len (h:(qg (op,w)).length=32):(e2 op rd rn rm ra imm cond w).length=16:=by
 unfold e2;rw[hl_len,List.length_drop];omega
def eBytes:List UInt8:=bif (qg (op,w)).length==16 then by2 (hb (e1 op rd rn rm ra imm cond w) 0) else by2 (hb (e1 op rd rn rm ra imm cond w) 0)++by2 (hb (e2 op rd rn rm ra imm cond w) 0)
theorem enc_val (hok:okB op rd rn rm ra imm cond w=true):(qbd (op,rd,rn,rm,ra,imm,cond,w,())).val=some (eBytes op rd rn rm ra imm cond w,0,()):=by
 have h:qd (op,rd,rn,rm,ra,imm,cond,w,())=0:=(check_iff op rd rn rm ra imm cond w).2 hok
 have hc:(qd (op,rd,rn,rm,ra,imm,cond,w,()) != (0:Int))=false:=by rw[h];rfl
 have hv:=bits_val op rd rn rm ra imm cond w h
 have hg:qcx (op,rd,rn,rm,ra,imm,cond,w,())=true:=by unfold qcx;rw[hv];rfl
 have he:qQ (op,rd,rn,rm,ra,imm,cond,w,())=codeV op rd rn rm ra imm cond w:=by unfold qQ PO.getO;rw[hv];rfl
 have hl:=code_long op rd rn rm ra imm cond w h
 obtain⟨hr,hs⟩:=same_bits op rd rn rm ra imm cond w h
 have e1':(qbd (op,rd,rn,rm,ra,imm,cond,w,())).val=(bif isLong op w then some (qS (codeV op rd rn rm ra imm cond w).1++qS (codeV op rd rn rm ra imm cond w).2.1,0,()) else some (qS (codeV op rd rn rm ra imm cond w).1,0,())):=by
  unfold qbd
  dsimp only[PO.val]
  rw[hc,hg,he,hl]
  rfl
 rw[e1']
 rcases hs with⟨s1,s2,s3⟩ |⟨s1,s2,s3,s4⟩
 ·rw[s1,s3,half_by2 (rowV_lt _ _ _ _ _ _ _ s2 hr),row_hb _ _ _ _ _ _ _ s2 hr]
  unfold eBytes e1
  rw[s2,List.take_of_length_le (by omega)]
  rfl
 ·have t1:((qg (op,w)).take 16).length=16:=by rw[List.length_take];omega
  have t2:((qg (op,w)).drop 16).length=16:=by rw[List.length_drop];omega
  have r1:rowOf ((qg (op,w)).take 16)=true:=List.all_eq_true.2 fun c hc=>List.all_eq_true.1 hr c (List.mem_of_mem_take hc)
  have r2:rowOf ((qg (op,w)).drop 16)=true:=List.all_eq_true.2 fun c hc=>List.all_eq_true.1 hr c (List.mem_of_mem_drop hc)
  rw[s1,s3,s4,half_by2 (rowV_lt _ _ _ _ _ _ _ t1 r1),half_by2 (rowV_lt _ _ _ _ _ _ _ t2 r2),row_hb _ _ _ _ _ _ _ t1 r1,row_hb _ _ _ _ _ _ _ t2 r2]
  unfold eBytes e1 e2
  rw[s2]
  rfl
end
theorem u8_nat {n:Nat} (h:n<256):(toByte (n:Int)).toNat=n:=by
 show(UInt8.ofNat ((n:Int).toNat)).toNat=n
 rw[Int.toNat_natCast,UInt8.toNat_ofNat']
 omega
theorem halfN_by2 (n:Nat) (h:n<65536) (s:List UInt8):halfN (by2 n++s) 0=n:=by
 show(toByte ((n % 256:Nat):Int)).toNat+256*(toByte ((n / 256:Nat):Int)).toNat=n
 rw[u8_nat (by omega),u8_nat (by omega)]
 omega
theorem halfN_by2' (m n:Nat) (h:n<65536) (s:List UInt8):halfN (by2 m++(by2 n++s)) 1=n:=by
 show(toByte ((n % 256:Nat):Int)).toNat+256*(toByte ((n / 256:Nat):Int)).toNat=n
 rw[u8_nat (by omega),u8_nat (by omega)]
 omega
theorem hb16 {l:List Bool} (h:l.length=16):hb l 0<65536:=by have:=hb_lt0 l;rw[h] at this;exact this
theorem hx_of {s:List UInt8} {k:Nat} {l:List Bool} (hl:l.length=16) (h:halfN s k=hb l 0):hx s k=l:=by
 unfold hx
 rw[h,←hl,bits_hb]
theorem dec_back (op rd rn rm ra imm cond:Int) (w:Bool) (hok:okB op rd rn rm ra imm cond w=true) (s:List UInt8):dDec (eBytes op rd rn rm ra imm cond w++s)=((op,rd,rn,rm,ra,imm,cond,w,()),lenI (eBytes op rd rn rm ra imm cond w),0,()):=by
 rcases two_ok op rd rn rm ra imm cond w hok with⟨h1,h2,h3⟩ |⟨h1,h2,h3⟩
 ·have l1:=e1_len op rd rn rm ra imm cond w (.inl h1)
  have hb1:=hb16 l1
  have e:eBytes op rd rn rm ra imm cond w=by2 (hb (e1 op rd rn rm ra imm cond w) 0):=by unfold eBytes;rw[h1];rfl
  have hh:=halfN_by2 _ hb1 s
  have hx0:=hx_of l1 hh
  rw[e]
  unfold dDec
  rw[dec_false (p:=lenI (by2 (hb (e1 op rd rn rm ra imm cond w) 0)++s)<2) (by simp only[lenI,List.length_append,by2_len];omega),hh,isL_ble l1,h2,hx0,h3]
  rfl
 ·have l1:=e1_len op rd rn rm ra imm cond w (.inr h1)
  have l2:=e2_len op rd rn rm ra imm cond w h1
  have hb1:=hb16 l1
  have hb2:=hb16 l2
  have e:eBytes op rd rn rm ra imm cond w=by2 (hb (e1 op rd rn rm ra imm cond w) 0)++by2 (hb (e2 op rd rn rm ra imm cond w) 0):=by unfold eBytes;rw[h1];rfl
  have hh:=halfN_by2 _ hb1 (by2 (hb (e2 op rd rn rm ra imm cond w) 0)++s)
  have hh2:=halfN_by2' (hb (e1 op rd rn rm ra imm cond w) 0) _ hb2 s
  have hx0:=hx_of l1 hh
  have hx1:=hx_of l2 hh2
  rw[e,List.append_assoc]
  unfold dDec
  rw[dec_false (p:=lenI (by2 (hb (e1 op rd rn rm ra imm cond w) 0)++(by2 (hb (e2 op rd rn rm ra imm cond w) 0)++s))<2) (by simp only[lenI,List.length_append,by2_len];omega),
   dec_false (p:=lenI (by2 (hb (e1 op rd rn rm ra imm cond w) 0)++(by2 (hb (e2 op rd rn rm ra imm cond w) 0)++s))<4) (by simp only[lenI,List.length_append,by2_len];omega),hh,isL_ble l1,h2,hx0,hx1,h3]
  rfl
theorem eBytes_len {op rd rn rm ra imm cond:Int} {w:Bool} (h:okB op rd rn rm ra imm cond w=true):(eBytes op rd rn rm ra imm cond w).length=2∨(eBytes op rd rn rm ra imm cond w).length=4:=by
 rcases two_ok op rd rn rm ra imm cond w h with⟨h1,_,_⟩ |⟨h1,_,_⟩
 ·left;unfold eBytes;rw[h1];rfl
 ·right;unfold eBytes;rw[h1];rfl
end Go.Av
end
section
namespace Go.Av
open Go
end Go.Av
end
section
namespace Go.Av
open Go
def encB (i:tIns.den):List UInt8:=eBytes i.1 i.2.1 i.2.2.1 i.2.2.2.1 i.2.2.2.2.1 i.2.2.2.2.2.1 i.2.2.2.2.2.2.1 i.2.2.2.2.2.2.2.1
def okI (i:tIns.den):Bool:=okB i.1 i.2.1 i.2.2.1 i.2.2.2.1 i.2.2.2.2.1 i.2.2.2.2.2.1 i.2.2.2.2.2.2.1 i.2.2.2.2.2.2.2.1
theorem qkR (i:tIns.den):qd i=0↔okI i=true:=by
 obtain⟨op,rd,rn,rm,ra,imm,cond,w,u⟩:=i
 exact check_iff op rd rn rm ra imm cond w
theorem encV_ok (i:tIns.den) (h:okI i=true):encV i=encB i:=by
 obtain⟨op,rd,rn,rm,ra,imm,cond,w,u⟩:=i
 have hv:=enc_val op rd rn rm ra imm cond w h
 unfold encV q7 PO.getO
 exact(congrArg (fun v=>(Option.getD v default).1) hv).trans rfl
theorem dec_encB (i:tIns.den) (h:okI i=true) (s:List UInt8):dDec (encB i++s)=(i,lenI (encB i),0,()):=by
 obtain⟨op,rd,rn,rm,ra,imm,cond,w,u⟩:=i
 exact dec_back op rd rn rm ra imm cond w h s
theorem encB_len (i:tIns.den) (h:okI i=true):(encB i).length=2∨(encB i).length=4:=eBytes_len h
def cat (l:List tIns.den):List UInt8:=l.flatMap encB
theorem cat_snoc (l:List tIns.den) (i:tIns.den):cat (l++[i])=cat l++encB i:=by simp[cat]
def insTo (it:List tItem.den) (b:Int) (ws:List Bool):Nat→List tIns.den
 |0=>[]
 |i+1=>bif (itemAt it i).1==1 then insTo it b ws i else insTo it b ws i++[insM it b ws i]
theorem insTo_bytes (it:List tItem.den) (b:Int) (ws:List Bool):∀i,(∀k,k<i→((itemAt it k).1==(1:Int))=false→okI (insM it b ws k)=true)→bytesTo it b ws i=cat (insTo it b ws i)∧∀x∈insTo it b ws i,okI x=true
 |0,_=>⟨rfl,fun _ h=>by cases h⟩
 |i+1,h=>by
  obtain⟨h1,h2⟩:=insTo_bytes it b ws i (fun k hk=>h k (by omega))
  simp only[bytesTo,insTo]
  cases hk:((itemAt it i).1==(1:Int))
  ·have hok:=h i (Nat.lt_succ_self _) hk
   simp only[cond_false]
   refine⟨?_,fun x hx=>?_⟩
   ·rw[cat_snoc,←h1,encV_ok _ hok]
   ·rcases List.mem_append.1 hx with hx |hx
    ·exact h2 x hx
    ·rw[List.mem_singleton.1 hx];exact hok
  ·exact⟨h1,h2⟩
theorem insTo_pre (it:List tItem.den) (b:Int) (ws:List Bool) (i:Nat):∀n,i≤n→∃t,insTo it b ws n=insTo it b ws i++t
 |0,h=>⟨[],by
  have:i=0:=by omega
  subst this
  simp⟩
 |n+1,h=>by
  rcases Nat.lt_or_ge n i with h' |h'
  ·have:i=n+1:=by omega
   subst this
   exact⟨[],by simp⟩
  ·obtain⟨t,ht⟩:=insTo_pre it b ws i n h'
   simp only[insTo]
   cases ((itemAt it n).1==(1:Int))
   ·exact⟨t++[insM it b ws n],by simp only[cond_false];rw[ht,List.append_assoc]⟩
   ·exact⟨t,ht⟩
theorem item_kinds (j:tItem.den) (h:qcB j=true):j.1=0∨j.1=1∨(j.1=2∧((j.2.2.1.1=24∧j.2.2.1.2.2.2.2.2.2.1=0)∨(j.2.2.1.1=25∧0≤j.2.2.1.2.2.2.2.2.2.1∧j.2.2.1.2.2.2.2.2.2.1≤13))):=by
 obtain⟨k,l,⟨op,rd,rn,rm,ra,imm,cond,w,u⟩,v⟩:=j
 by_cases h0:k=0
 ·exact .inl h0
 by_cases h1:k=1
 ·exact .inr (.inl h1)
 have e0:(k==(0:Int))=false:=by simpa using h0
 have e1:(k==(1:Int))=false:=by simpa using h1
 by_cases h2:k=2
 ·refine .inr (.inr ⟨h2,?_⟩)
  subst h2
  have h:qdl (op,rd,rn,rm,ra,imm,cond,w,u)=true:=h
  unfold qdl qe8 PO.getO at h
  simp only[PO.val] at h
  show(op=24∧cond=0)∨(op=25∧0≤cond∧cond≤13)
  by_cases g:op=24
  ·subst g
   left
   refine⟨rfl,?_⟩
   have h:(cond==(0:Int))=true:=h
   simpa using h
  ·have g1:(op==(24:Int))=false:=by simpa using g
   rw[g1,cond_false] at h
   by_cases g':op=25
   ·subst g'
    right
    have h:(decide (cond≥0)&&decide (cond≤13))=true:=h
    rw[Bool.and_eq_true] at h
    have a:=of_decide_eq_true h.1
    have b:=of_decide_eq_true h.2
    exact⟨rfl,by omega,by omega⟩
   ·have g2:(op==(25:Int))=false:=by simpa using g'
    rw[g2,cond_false] at h
    cases h
 ·exfalso
  have e2:(k==(2:Int))=false:=by simpa using h2
  unfold qcB qgD PO.getO at h
  simp only[PO.val,e0,e1,e2,cond_false] at h
  cases h
theorem reach24:qN (24,false)=(-2048,2046,()):=rfl
theorem reach25:qN (25,false)=(-256,254,()):=rfl
theorem pos_mono (it:List tItem.den) (b:Int) (ws:List Bool) {i:Nat}:∀{k:Nat},i≤k→posI it b ws i≤posI it b ws k
 |0,h=>by rw[show i=0 by omega];exact Int.le_refl _
 |k+1,h=>by
  rcases Nat.lt_or_ge k i with h' |h'
  ·rw[show i=k+1 by omega];exact Int.le_refl _
  ·have:=pos_mono it b ws h'
   have:=sizeJ_bound (itemAt it k) (wd ws k)
   simp only[posI]
   omega
theorem sizeJ_even (j:tItem.den) (w:Bool):sizeJ j w % 2=0:=by
 unfold sizeJ
 cases (j.1==(0:Int))
 ·cases (j.1==(2:Int))<;>cases w<;>rfl
 ·have key:∀(x:tIns.den) (n:Int),q6 x=n→n % 2=0:=fun x n h=>by
   subst h
   unfold q6
   cases (qd x != 0)<;>cases isLong x.1 x.2.2.2.2.2.2.2.1<;>rfl
  exact key j.2.2.1 _ rfl
theorem pos_even (it:List tItem.den) (b:Int) (ws:List Bool):∀i k:Nat,(posI it b ws i-posI it b ws k) % 2=0:=by
 have h:∀i:Nat,(posI it b ws i-b) % 2=0:=fun i=>by
  induction i with
  |zero=>simp[posI]
  |succ i ih =>
   have:=sizeJ_even (itemAt it i) (wd ws i)
   simp only[posI]
   omega
 intro i k
 have h1:=h i
 have h2:=h k
 omega
theorem out_no {it:List tItem.den} {b:Int} {ws:List Bool} {i:Nat} (h:outR it b ws i=false):((itemAt it i).2.2.1.1=24→-2048≤offM it b ws i∧offM it b ws i≤2046)∧((itemAt it i).2.2.1.1=25→-256≤offM it b ws i∧offM it b ws i≤254):=by
 unfold outR at h
 rw[Bool.or_eq_false_iff] at h
 have a:=of_decide_eq_false h.1
 have c:=of_decide_eq_false h.2
 constructor
 ·intro e
  rw[e,reach24] at a c
  dsimp only at a c
  omega
 ·intro e
  rw[e,reach25] at a c
  dsimp only at a c
  omega
theorem okB_24 (imm:Int) (w:Bool) (h1:imm % 2=0) (h2:w=false→-2048≤imm∧imm≤2046) (h3:-1000000≤imm∧imm≤1000000):okB 24 0 0 0 0 imm 0 w=true:=by
 show(imm % 2==0&&bif w then bw imm (-16777216) 16777214 else bw imm (-2048) 2046)=true
 rw[h1]
 cases w
 ·obtain⟨a,b⟩:=h2 rfl
  simp[bw,a,b]
 ·have a:-16777216≤imm:=by omega
  have b:imm≤16777214:=by omega
  simp[bw,a,b]
theorem okB_25 (imm cond:Int) (w:Bool) (h1:imm % 2=0) (h2:w=false→-256≤imm∧imm≤254) (h3:-1000000≤imm∧imm≤1000000) (hc:0≤cond∧cond≤13):okB 25 0 0 0 0 imm cond w=true:=by
 show(bw cond 0 13&&(imm % 2==0&&bif w then bw imm (-1048576) 1048574 else bw imm (-256) 254))=true
 rw[h1]
 obtain⟨c,d⟩:=hc
 cases w
 ·obtain⟨a,b⟩:=h2 rfl
  simp[bw,a,b,c,d]
 ·have a:-1048576≤imm:=by omega
  have b:imm≤1048574:=by omega
  simp[bw,a,b,c,d]
section
variable (it:List tItem.den) (b:Int) (ws:List Bool) (hn:it.length≤21000) (hf:AsmFine it b) (hp:(passTo it b ws it.length).1=false)
include hn hf hp
theorem ins_ok {i:Nat} (hi:i<it.length) (hk:((itemAt it i).1==(1:Int))=false):okI (insM it b ws i)=true:=by
 have hj:qcB (itemAt it i)=true:=by
  have:=hf.item i hi
  unfold badJ at this
  simpa using this
 rcases item_kinds _ hj with h0 |h1 |⟨h2,hop⟩
 ·have e:insM it b ws i=(itemAt it i).2.2.1:=by unfold insM;rw[h0];rfl
  rw[e]
  refine(qkR _).1 ?_
  have hc:=hf.chk i hi
  unfold chkAt at hc
  rw[h0] at hc
  simpa using hc
 ·rw[h1] at hk;cases hk
 ·have e:insM it b ws i=((itemAt it i).2.2.1.1,0,0,0,0,offM it b ws i,(itemAt it i).2.2.1.2.2.2.2.2.2.1,wd ws i,()):=by unfold insM;rw[h2];rfl
  rw[e]
  show okB (itemAt it i).2.2.1.1 0 0 0 0 (offM it b ws i) (itemAt it i).2.2.1.2.2.2.2.2.2.1 (wd ws i)=true
  have hbr:((itemAt it i).1 != (2:Int))=false:=by rw[h2];rfl
  have hev:offM it b ws i % 2=0:=by
   have:=pos_even it b ws (tgt it i) i
   unfold offM
   omega
  have hr:wd ws i=false→outR it b ws i=false:=fun hw=>pass_done it b ws it.length hp i hi hbr hw
  have hfar:-1000000≤offM it b ws i∧offM it b ws i≤1000000:=by
   have h1:=pos_bound it b ws i
   have h2:=pos_bound it b ws (tgt it i)
   have h3:=(tgt_some it hf.miss hi hbr).2
   unfold offM
   omega
  rcases hop with⟨ho,hc⟩ |⟨ho,hc⟩
  ·rw[ho,hc]
   exact okB_24 _ _ hev (fun hw=>(out_no (hr hw)).1 ho) hfar
  ·rw[ho]
   exact okB_25 _ _ _ hev (fun hw=>(out_no (hr hw)).2 ho) hfar hc
theorem ins_size {i:Nat} (hi:i<it.length) (hk:((itemAt it i).1==(1:Int))=false):q6 (insM it b ws i)=sizeJ (itemAt it i) (wd ws i):=by
 have hok:=ins_ok it b ws hn hf hp hi hk
 have hj:qcB (itemAt it i)=true:=by
  have:=hf.item i hi
  unfold badJ at this
  simpa using this
 rcases item_kinds _ hj with h0 |h1 |⟨h2,hop⟩
 ·have e:insM it b ws i=(itemAt it i).2.2.1:=by unfold insM;rw[h0];rfl
  rw[e]
  unfold sizeJ
  rw[h0]
  rfl
 ·rw[h1] at hk;cases hk
 ·have hz:qd (insM it b ws i)=0:=(qkR _).2 hok
  unfold q6
  rw[hz]
  have e:insM it b ws i=((itemAt it i).2.2.1.1,0,0,0,0,offM it b ws i,(itemAt it i).2.2.1.2.2.2.2.2.2.1,wd ws i,()):=by unfold insM;rw[h2];rfl
  rw[e]
  unfold sizeJ
  rw[h2]
  show(bif isLong (itemAt it i).2.2.1.1 (wd ws i) then(4:Int) else 2)=bif wd ws i then 4 else 2
  rcases hop with⟨ho,_⟩ |⟨ho,_⟩
  ·rw[ho];cases wd ws i<;>rfl
  ·rw[ho];cases wd ws i<;>rfl
end
end Go.Av
end
section
namespace Go.Av
open Go
def resG (q:List tEvent.den×Int×RunS):tResult.den:=(q.2.2.2.1,((q.1.length:Nat):Int),cycX q.1,q.2.1,qhJ 537919488 q.2.2.2.2,qhJ 538968064 q.2.2.2.2,(qfl 2 q.2.2.2.2).1,(qfl 3 q.2.2.2.2).1,(qfl 4 q.2.2.2.2).1,())
theorem resX_G (y:MS) (f:tFault.den) (b:Int):resX y f b=resG (goX y.1.1 y.1.2.1 f b.toNat 0 (runSof y)):=rfl
theorem now_none (k:Int):nowX noFault k=noFault:=by
 unfold nowX
 cases noFault.2.1==k<;>rfl
section
variable (hd:tHead.den) (fl:List UInt8) (f:tFault.den)
end
theorem runX_ok {img inp:List UInt8} (h1:((parseX img).2.1 != (0:Int))=false) (h2:(lenI inp != (parseX img).1.2.2.1.1)=false) (f:tFault.den) (b:Int) (hf:qp f=0) (hb:0≤b∧b≤67108864) :
  runX img inp f b=(resX (startX (parseX img).1 img inp) f b,0,()):=by
 unfold runX
 rw[h1,h2]
 have:(qp f != 0||(decide (b<0)||decide (b > 67108864)))=false:=by
  rw[hf]
  simp
  omega
 rw[this]
 rfl
end Go.Av
end
section
namespace Go.Av
open Go
end Go.Av
end
section
namespace Go.Av
open Go
end Go.Av
end
section
namespace Go.Av
open Go
def insI (op rd rn rm ra imm cond:Int):tIns.den:=(op,rd,rn,rm,ra,imm,cond,false,())
def itI (i:tIns.den):tItem.den:=(0,0,i,())
def itL (n:Int):tItem.den:=(1,n,insI 0 0 0 0 0 0 0,())
def itB (n:Int):tItem.den:=(2,n,insI 24 0 0 0 0 0 0,())
def itC (c n:Int):tItem.den:=(2,n,insI 25 0 0 0 0 0 c,())
def lo (ref:Bool) (n:Int):Int:=match ref with
 |false=>band IntKind.i64 n 65535
 |true=>w64 (Int.tmod (IntKind.wrap IntKind.u64 n) 65536)
def hi (ref:Bool) (n:Int):Int:=match ref with
 |false=>band IntKind.i64 (ishr IntKind.i64 n 16) 65535
 |true=>w64 (Int.tmod (IntKind.wrap IntKind.u64 (Int.tdiv (IntKind.wrap IntKind.u64 n) 65536)) 65536)
def movw (rd imm:Int):tIns.den:=insI 3 rd 0 0 0 imm 0
def wordI (ref:Bool) (reg n:Int):List tIns.den:=[movw reg (lo ref n),insI 4 reg 0 0 0 (hi ref n) 0]
def addrI (ref:Bool) (reg base frm:Int):List tIns.den:=[movw reg 0,insI 4 reg 0 0 0 (hi ref base) 0,insI 18 reg frm 0 16 0 0]
def addI (d n m:Int):tIns.den:=insI 14 d n m 0 0 0
def cmpI (n m:Int):tIns.den:=insI 23 0 n m 0 0 0
def ldrI (d n:Int):tIns.den:=insI 19 d n 0 0 0 0
def strI (d n:Int):tIns.den:=insI 20 d n 0 0 0 0
def lslI (d m:Int):tIns.den:=insI 5 d 0 m 0 0 0
def bkptI:tIns.den:=insI 2 0 0 0 0 0 0
def its (l:List tIns.den):List tItem.den:=l.map itI
abbrev qdQ:List Ty:=[tI,tI]
abbrev qma:Sh:=.osl 32 tIns
def qjT (x:dens qdQ):PO (List tIns.den):=.ite (decide (x.1<0)||decide (x.1 > 7)) (.ret []) (.ret (wordI false x.1 x.2))
def qkH (_:dens qdQ):Bool:=true
def qkC (x:dens qdQ):List tIns.den:=bif decide (x.1<0)||decide (x.1 > 7) then[] else wordI false x.1 x.2
theorem qlU (x:dens qdQ) (_:qkH x=true):(qjT x).val=some (qkC x):=by
 unfold qjT qkC PO.val
 cases decide (x.1<0)||decide (x.1 > 7)<;>rfl
abbrev qfc:List Ty:=[tI,tI,tI]
abbrev qkd:Sh:=.osl 32 tIns
def qiw (x:dens qfc):PO (List tIns.den):=.ite (decide (x.1<0)||(decide (x.1 > 7)||(decide (x.2.2<0)||(decide (x.2.2 > 12)||x.1==x.2.2)))) (.ret []) (.ret (addrI false x.1 x.2.1 x.2.2))
def qis (_:dens qfc):Bool:=true
def qgw (x:dens qfc):List tIns.den:=bif decide (x.1<0)||(decide (x.1 > 7)||(decide (x.2.2<0)||(decide (x.2.2 > 12)||x.1==x.2.2))) then[] else addrI false x.1 x.2.1 x.2.2
theorem qlb (x:dens qfc) (_:qis x=true):(qiw x).val=some (qgw x):=by
 unfold qiw qgw PO.val
 cases decide (x.1<0)||(decide (x.1 > 7)||(decide (x.2.2<0)||(decide (x.2.2 > 12)||x.1==x.2.2)))<;>rfl
def two {α:Type} (b:Bool) (k:Bool→Bool→PO α):PO α:=.ite b (.ite b (k true true) (k true false)) (.ite b (k false true) (k false false))
theorem two_val {α:Type} (b:Bool) (k:Bool→Bool→PO α):(two b k).val=(k b b).val:=by cases b<;>rfl
def headL (ref:Bool) (n first:Int):List tItem.den:=its [movw 1 0]++[itL first]++its (wordI ref 2 n)++its [cmpI 1 2]++[itC 2 (w64 (first+1))]
def tailL (first:Int):List tItem.den:=its [movw 3 4,addI 4 1 3,lslI 1 4]++[itB first,itL (w64 (first+1))]
end Go.Av
end
section
namespace Go.Av
open Go
end Go.Av
end
section
namespace Go.Av
open Go
end Go.Av
end
section
namespace Go.Av
open Go
def getI (x:Int×Int×Int):List tIns.den:=[movw 7 x.1,insI 4 7 0 0 0 (bif x.2.1==0 then 8196 else 8200) 0,ldrI x.2.2 7]
end Go.Av
end
section
namespace Go.Av
open Go
end Go.Av
end
