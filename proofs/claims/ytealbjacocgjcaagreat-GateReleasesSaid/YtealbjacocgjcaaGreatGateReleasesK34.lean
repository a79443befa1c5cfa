/- Texts of the proof, one behind the other. -/
import Derived.Test.YtealbjacocgjcaaGreatGateReleasesK33
import Derived.Test.YtealbjacocgjcaaGreatGateReleasesK32
section
namespace Go.Av
open Go
theorem putsW_app (sz:tSizes.den):∀(a b:List tStore.den) (W:Nat→Nat),putsW sz (a++b) W=putsW sz b (putsW sz a W)
 |[],_,_=>rfl
 |_::a,b,_=>putsW_app sz a b _
theorem put_get (wh at_ w:Int) (o mr:Nat) (hwh:wh=1∨wh=2) (hmr:mr≤16384) (W:Nat→Nat) (t:Nat) (b:Nat) (hb:(b=537133056∧wh=1)∨(b=537395200∧wh=2)) (ht:t<mr) :
  (bif putBad (wh,at_,w,()) ((0:Int),(o:Int),((4*mr:Nat):Int),()) then W else updW W (putA (wh,at_,w,())).toNat (wn w)) (b+4*t)=bif at_==(t:Int) then wn w else W (b+4*t):=by
 have hN:putN (wh,at_,w,()) ((0:Int),(o:Int),((4*mr:Nat):Int),())=((4*mr:Nat):Int):=by rcases hwh with rfl |rfl<;>rfl
 have hB:putB (wh,at_,w,())=(b:Int):=by rcases hb with⟨rfl,rfl⟩ |⟨rfl,rfl⟩<;>rfl
 have hbl:b≤537395200:=by omega
 have hd:w64 (Int.tdiv ((4*mr:Nat):Int) 4)=(mr:Int):=by
  rw[Int.tdiv_eq_ediv_of_nonneg (by omega),w64_id (by omega) (by omega)]
  omega
 cases hp:putBad (wh,at_,w,()) ((0:Int),(o:Int),((4*mr:Nat):Int),())
 ·unfold putBad at hp
  rw[hN,hd,Bool.or_eq_false_iff] at hp
  have h0:(0:Int)≤at_:=Int.not_lt.1 (of_decide_eq_false hp.1)
  have h1:at_<(mr:Int):=Int.not_le.1 (of_decide_eq_false hp.2)
  have hA:(putA (wh,at_,w,())).toNat=b+4*at_.toNat:=by
   unfold putA
   rw[hB]
   show(w64 ((b:Int)+w64 (4*at_))).toNat=_
   rw[w64_id (n:=4*at_) (by omega) (by omega),w64_id (by omega) (by omega)]
   omega
  rw[cond_false,hA]
  cases he:(at_==(t:Int))
  ·have:at_≠(t:Int):=by simpa using he
   rw[cond_false,updW_other _ _ (by omega)]
  ·have:at_=(t:Int):=by simpa using he
   rw[cond_true,show b+4*t=b+4*at_.toNat by omega,updW_same]
 ·unfold putBad at hp
  rw[hN,hd,Bool.or_eq_true,decide_eq_true_eq,decide_eq_true_eq] at hp
  have hp:at_<0∨at_≥(mr:Int):=hp
  have he:(at_==(t:Int))=false:=beq_eq_false_iff_ne.2 (by omega)
  rw[he]
  rfl
theorem put_far (wh at_ w:Int) (o mr:Nat) (hwh:wh=1∨wh=2) (hmr:mr≤16384) (W:Nat→Nat) (t:Nat) (b:Nat) (hb:(b=537133056∧wh=2)∨(b=537395200∧wh=1)) (ht:t<mr) :
  (bif putBad (wh,at_,w,()) ((0:Int),(o:Int),((4*mr:Nat):Int),()) then W else updW W (putA (wh,at_,w,())).toNat (wn w)) (b+4*t)=W (b+4*t):=by
 have hN:putN (wh,at_,w,()) ((0:Int),(o:Int),((4*mr:Nat):Int),())=((4*mr:Nat):Int):=by rcases hwh with rfl |rfl<;>rfl
 obtain⟨c,hB,hc⟩:∃c:Nat,putB (wh,at_,w,())=(c:Int)∧((b=537133056∧c=537395200)∨(b=537395200∧c=537133056)):=by
  rcases hb with⟨rfl,rfl⟩ |⟨rfl,rfl⟩
  ·exact⟨537395200,rfl,.inl ⟨rfl,rfl⟩⟩
  ·exact⟨537133056,rfl,.inr ⟨rfl,rfl⟩⟩
 have hd:w64 (Int.tdiv ((4*mr:Nat):Int) 4)=(mr:Int):=by
  rw[Int.tdiv_eq_ediv_of_nonneg (by omega),w64_id (by omega) (by omega)]
  omega
 cases hp:putBad (wh,at_,w,()) ((0:Int),(o:Int),((4*mr:Nat):Int),())
 ·unfold putBad at hp
  rw[hN,hd,Bool.or_eq_false_iff] at hp
  have h0:(0:Int)≤at_:=Int.not_lt.1 (of_decide_eq_false hp.1)
  have h1:at_<(mr:Int):=Int.not_le.1 (of_decide_eq_false hp.2)
  have hA:(putA (wh,at_,w,())).toNat=c+4*at_.toNat:=by
   unfold putA
   rw[hB]
   show(w64 ((c:Int)+w64 (4*at_))).toNat=_
   rw[w64_id (n:=4*at_) (by omega) (by omega),w64_id (by omega) (by omega)]
   omega
  rw[cond_false,hA,updW_other _ _ (by omega)]
 ·rfl
def bothL (l:List tStore.den):List tStore.den:=l.flatMap fun x=>[(1,x.2),(2,x.2)]
def lastF (at_:Int) (l:List tStore.den) (w0:Int):Int:=l.foldl (fun w x=>bif x.2.1==at_ then band .i64 x.2.2.1 4294967295 else w) w0
theorem both_last (o mr:Nat) (hmr:mr≤16384) (t:Nat) (ht:t<mr):∀(l:List tStore.den) (W:Nat→Nat) (w0:Int),W (537133056+4*t)=wn w0→W (537395200+4*t)=wn w0 →
  putsW ((0:Int),(o:Int),((4*mr:Nat):Int),()) (bothL l) W (537133056+4*t)=wn (lastF t l w0)∧putsW ((0:Int),(o:Int),((4*mr:Nat):Int),()) (bothL l) W (537395200+4*t)=wn (lastF t l w0)
 |[],W,w0,h1,h2=>⟨h1,h2⟩
 |(wh,at_,w,u)::l,W,w0,h1,h2=>by
  have e:bothL ((wh,at_,w,u)::l)=(1,at_,w,())::(2,at_,w,())::bothL l:=rfl
  rw[e,putsW,putsW]
  have hb:wn (band .i64 w 4294967295)=wn w:=by rw[band_wn,wn_wn]
  refine both_last o mr hmr t ht l _ (bif at_==(t:Int) then band .i64 w 4294967295 else w0) ?_ ?_
  ·rw[put_far 2 at_ w o mr (.inr rfl) hmr _ t 537133056 (.inl ⟨rfl,rfl⟩) ht,put_get 1 at_ w o mr (.inl rfl) hmr W t 537133056 (.inl ⟨rfl,rfl⟩) ht,h1]
   cases (at_==(t:Int))
   ·rfl
   ·exact hb.symm
  ·rw[put_get 2 at_ w o mr (.inr rfl) hmr _ t 537395200 (.inr ⟨rfl,rfl⟩) ht,put_far 1 at_ w o mr (.inl rfl) hmr W t 537395200 (.inr ⟨rfl,rfl⟩) ht,h2]
   cases (at_==(t:Int))
   ·rfl
   ·exact hb.symm
theorem last_in (at_:Int):∀(l:List tStore.den) (w0:Int),0≤w0∧w0<4294967296→0≤lastF at_ l w0∧lastF at_ l w0<4294967296
 |[],_,h=>h
 |x::l,w0,h=>by
  show 0≤lastF at_ l _∧lastF at_ l _<_
  refine last_in at_ l _ ?_
  show 0≤(bif x.2.1==at_ then band .i64 x.2.2.1 4294967295 else w0)∧(bif x.2.1==at_ then band .i64 x.2.2.1 4294967295 else w0)<4294967296
  cases (x.2.1==at_)
  ·exact h
  ·rw[cond_true,band_wn]
   have:=wn_lt x.2.2.1
   omega
theorem last_val (I M:Int) (l:List tStore.den) (u:Bool) (at_:Int):qbH ((I,M,l,u,()),at_)=true∧qH ((I,M,l,u,()),at_)=lastF at_ (l.take 20) 0:=by
 have hl:LoopN.res qcZ (at_,(),0,0) (I,M,l,u,())=some (0,(lastF at_ (l.take 20) 0,((min l.length 20:Nat):Int),(I,M,l,u,()))):=by
  unfold LoopN.res
  refine runL_count (turn:=qcZ.turn (at_,(),0,0) (I,M,l,u,())) (fun i=>(lastF at_ (l.take i) 0,(i:Int),(I,M,l,u,()))) (0,(lastF at_ (l.take 20) 0,((min l.length 20:Nat):Int),(I,M,l,u,()))) (n:=min l.length 20) (fun i hi=>?_) ?_ (min l.length 20) 0 (by omega) _ (by show min l.length 20<l.length+1;omega)
  ·have h1:i<l.length:=by omega
   have h2:i<20:=by omega
   refine(val_yes ?_).trans ((val_yes (inR h1)).trans ((val_yes ?_).trans ?_))
   ·dsimp only
    rw[dec_true (show(i:Int)<lenI l by simp only[lenI];omega),dec_true (show(i:Int)<20 by omega)]
    rfl
   ·dsimp only
    rw[inR h1]
    cases ((List.getD l (Int.toNat (i:Int)) (Ty.dflt tStore)).2.1==at_)<;>rfl
   ·have hg:List.getD l (Int.toNat (i:Int)) (Ty.dflt tStore)=l[i]:=getD_in l _ h1
    have ht:lastF at_ (l.take (i+1)) 0=bif l[i].2.1==at_ then band .i64 l[i].2.2.1 4294967295 else lastF at_ (l.take i) 0:=by
     rw[List.take_succ_eq_append_getElem h1]
     unfold lastF
     rw[List.foldl_append]
     rfl
    have hw:w64 ((i:Int)+1)=((i+1:Nat):Int):=by rw[w64_id (by omega) (by omega)];omega
    dsimp only
    rw[hg,ht,hw]
    rfl
  ·refine(val_no ?_).trans ?_
   ·dsimp only
    by_cases h:l.length≤20
    ·rw[dec_false (show ¬(((min l.length 20:Nat):Int)<lenI l) by simp only[lenI];omega)]
     rfl
    ·rw[dec_false (show ¬(((min l.length 20:Nat):Int)<20) by omega),Bool.and_false]
   ·have:l.take (min l.length 20)=l.take 20:=by
     rw[List.take_eq_take_iff]
     omega
    dsimp only
    rw[this]
    rfl
 have hT:(qcr ((I,M,l,u,()),at_)).val=some (lastF at_ (l.take 20) 0):=by
  unfold qcr
  exact(val_opt hl).trans rfl
 exact⟨by unfold qbH;rw[hT];rfl,by unfold qH PO.getO;rw[hT];rfl⟩
def imgV (I:Nat) (l:List tStore.den) (i:Nat):Int:=lastF ((I+i:Nat):Int) (l.take 20) 0
def imgI (I:Nat) (l:List tStore.den) (k:Nat):List Int:=(List.range k).flatMap fun i=>[IntKind.wrap .u8 (imgV I l i),IntKind.wrap .u8 (ishr .i64 (imgV I l i) 8),IntKind.wrap .u8 (ishr .i64 (imgV I l i) 16),IntKind.wrap .u8 (ishr .i64 (imgV I l i) 24)]
theorem imgI_next (I:Nat) (l:List tStore.den) (k:Nat):imgI I l (k+1)=imgI I l k++[IntKind.wrap .u8 (imgV I l k),IntKind.wrap .u8 (ishr .i64 (imgV I l k) 8),IntKind.wrap .u8 (ishr .i64 (imgV I l k) 16),IntKind.wrap .u8 (ishr .i64 (imgV I l k) 24)]:=by
 unfold imgI
 rw[List.range_succ,List.flatMap_append]
 simp
theorem imgI_len (I:Nat) (l:List tStore.den):∀k,(imgI I l k).length=4*k
 |0=>rfl
 |k+1=>by
  rw[imgI_next,List.length_append,imgI_len I l k]
  show 4*k+4=_
  omega
theorem four_bytes (v:Int) (h:0≤v∧v<4294967296):[IntKind.wrap .u8 v,IntKind.wrap .u8 (ishr .i64 v 8),IntKind.wrap .u8 (ishr .i64 v 16),IntKind.wrap .u8 (ishr .i64 v 24)].map toByte=qz v:=by
 have e:(qq v:Int)=v:=by
  show((wn v:Nat):Int)=v
  rw[wn_int]
  omega
 have e0:ishr .i64 v 0=v:=by
  have:=ishr_i64 v 0 (by omega)
  have this:ishr .i64 v 0=v / ((2 ^ 0:Nat):Int):=this
  rw[this]
  omega
 show _=bytesOf (shown (List.set (List.set (List.set (List.set [0,0,0,0] (Int.toNat 0) (IntKind.wrap IntKind.u8 (ishr IntKind.i64 (qq v) 0))) (Int.toNat 1) (IntKind.wrap IntKind.u8 (ishr IntKind.i64 (qq v) 8))) (Int.toNat 2) (IntKind.wrap IntKind.u8 (ishr IntKind.i64 (qq v) 16))) (Int.toNat 3) (IntKind.wrap IntKind.u8 (ishr IntKind.i64 (qq v) 24))) (0,4))
 rw[e,e0]
 rfl
theorem image_val (I M:Nat) (l:List tStore.den) (u:Bool) (hI:I≤8) (hM:M≤8):qbA ((I:Int),(M:Int),l,u,())=true∧qbg ((I:Int),(M:Int),l,u,())=(List.range M).flatMap fun i=>qz (imgV I l i):=by
 have hl:LoopN.res qcH ((),[],0) ((I:Int),(M:Int),l,u,())=some (0,(imgI I l M,(M:Int),((I:Int),(M:Int),l,u,()))):=by
  unfold LoopN.res
  refine runL_count (turn:=qcH.turn ((),[],0) ((I:Int),(M:Int),l,u,())) (fun i=>(imgI I l i,(i:Int),((I:Int),(M:Int),l,u,()))) (0,(imgI I l M,(M:Int),((I:Int),(M:Int),l,u,()))) (n:=M) (fun i hi=>?_) ?_ M 0 (by omega) _ (by show M<Int.toNat (M:Int)+1;omega)
  ·obtain⟨g,v⟩:=last_val (I:Int) (M:Int) l u ((I:Int)+(i:Int))
   have hw:w64 ((I:Int)+(i:Int))=(I:Int)+(i:Int):=w64_id (by omega) (by omega)
   have hw1:w64 ((i:Int)+1)=((i+1:Nat):Int):=by rw[w64_id (by omega) (by omega)];omega
   have hv:qH (((I:Int),(M:Int),l,u,()),(I:Int)+(i:Int))=imgV I l i:=by
    rw[v]
    unfold imgV
    rw[show(I:Int)+(i:Int)=((I+i:Nat):Int) by omega]
   have hlen:=imgI_len I l i
   refine(val_yes (dec_true (show(i:Int)<(M:Int) by omega))).trans ((val_yes ?_).trans ?_)
   ·dsimp only
    rw[hw]
    exact g
   ·dsimp only
    rw[hw,hv,hw1,imgI_next]
    refine(val_yes ?_).trans rfl
    rw[Nat.ble_eq]
    show(List.length (imgI I l i)+4)*1≤_
    omega
  ·exact(val_no (dec_false (show ¬((M:Int)<(M:Int)) by omega))).trans rfl
 have hT:(qcc ((I:Int),(M:Int),l,u,())).val=some ((List.range M).flatMap fun i=>qz (imgV I l i)):=by
  unfold qcc
  refine(val_opt hl).trans ?_
  show some (List.map toByte (imgI I l M))=_
  unfold imgI
  rw[List.map_flatMap]
  congr 2
  funext i
  exact four_bytes _ (last_in _ _ 0 (by omega))
 exact⟨by unfold qbA;rw[hT];rfl,by unfold qbg PO.getO;rw[hT];rfl⟩
theorem putT_val {α:Type} (base:List tItem.den) (x:tStore.den) (sz:tSizes.den) (K:List tItem.den→PO α) (h:base.length≤900000):(putT base x sz K).val=(K (base++putsL sz [x])).val:=by
 have e:putsL sz [x]=bif putBad x sz then[] else put5 x:=by
  unfold putsL
  simp
 unfold putT
 rw[e]
 cases putBad x sz
 ·refine(val_no rfl).trans ?_
  exact appT_val K (put5 x) base (by
   have:(put5 x).length=5:=rfl
   omega)
 ·refine(val_yes rfl).trans ?_
  rw[cond_true,List.append_nil]
theorem putsL_app (sz:tSizes.den) (a b:List tStore.den):putsL sz (a++b)=putsL sz a++putsL sz b:=by
 unfold putsL
 rw[List.flatMap_append]
theorem putsL_len (sz:tSizes.den) (l:List tStore.den):(putsL sz l).length=(putsI sz l).length:=by
 rw[puts_its]
 unfold its
 rw[List.length_map]
theorem bothL_len (l:List tStore.den):(bothL l).length=2*l.length:=by
 induction l with
 |nil=>rfl
 |cons x l ih =>
  have e:bothL (x::l)=(1,x.2)::(2,x.2)::bothL l:=rfl
  rw[e]
  simp only[List.length_cons]
  omega
theorem ahead_val (c:tCase.den) (sz:tSizes.den):LoopN.res qbF ((),[],(),0) (c,sz)=some (0,(putsL sz (bothL (c.2.2.1.take 20)),((min c.2.2.1.length 20:Nat):Int),c,sz)):=by
 obtain⟨I,M,l,u,z⟩:=c
 show LoopN.res qbF ((),[],(),0) ((I,M,l,u,z),sz)=some (0,(putsL sz (bothL (l.take 20)),((min l.length 20:Nat):Int),(I,M,l,u,z),sz))
 unfold LoopN.res
 refine runL_count (turn:=qbF.turn ((),[],(),0) ((I,M,l,u,z),sz)) (fun i=>(putsL sz (bothL (l.take i)),(i:Int),(I,M,l,u,z),sz)) (0,(putsL sz (bothL (l.take 20)),((min l.length 20:Nat):Int),(I,M,l,u,z),sz)) (n:=min l.length 20) (fun i hi=>?_) ?_ (min l.length 20) 0 (by omega) _ (by show min l.length 20<l.length+1;omega)
 ·have h1:i<l.length:=by omega
  have h2:i<20:=by omega
  refine(val_yes ?_).trans ((val_yes (inR h1)).trans ?_)
  ·dsimp only
   rw[dec_true (show(i:Int)<lenI l by simp only[lenI];omega),dec_true (show(i:Int)<20 by omega)]
   rfl
  ·have hg:List.getD l (Int.toNat (i:Int)) (Ty.dflt tStore)=l[i]:=getD_in l _ h1
   have ht:putsL sz (bothL (l.take (i+1)))=putsL sz (bothL (l.take i))++putsL sz [(1,l[i].2)]++putsL sz [(2,l[i].2)]:=by
    rw[List.take_succ_eq_append_getElem h1]
    have e1:bothL (l.take i++[l[i]])=bothL (l.take i)++([(1,l[i].2)]++[(2,l[i].2)]):=by
     unfold bothL
     rw[List.flatMap_append]
     rfl
    rw[e1,putsL_app,putsL_app,List.append_assoc]
   have hb:(putsL sz (bothL (l.take i))).length≤200:=by
    rw[putsL_len]
    have a:=puts_len sz (bothL (l.take i))
    rw[bothL_len,List.length_take] at a
    omega
   have hb1:(putsL sz [(1,l[i].2)]).length≤5:=by
    rw[putsL_len]
    exact puts_len sz [(1,l[i].2)]
   have hw:w64 ((i:Int)+1)=((i+1:Nat):Int):=by rw[w64_id (by omega) (by omega)];omega
   dsimp only
   rw[hg,ht,hw]
   refine(putT_val _ _ _ _ (by omega)).trans ((putT_val _ _ _ _ ?_).trans rfl)
   rw[List.length_append]
   omega
 ·refine(val_no ?_).trans ?_
  ·dsimp only
   by_cases h:l.length≤20
   ·rw[dec_false (show ¬(((min l.length 20:Nat):Int)<lenI l) by simp only[lenI];omega)]
    rfl
   ·rw[dec_false (show ¬(((min l.length 20:Nat):Int)<20) by omega),Bool.and_false]
  ·have:l.take (min l.length 20)=l.take 20:=by
    rw[List.take_eq_take_iff]
    omega
   dsimp only
   rw[this]
   rfl
end Go.Av
end
section
namespace Go.Av
open Go
end Go.Av
end
section
namespace Go.Av
open Go
theorem jOk_mono {L L':List Int} (h:∀l,L.contains l=true→L'.contains l=true) (j:tItem.den) (hj:jOk L j=true):jOk L' j=true:=by
 unfold jOk at *
 cases h0:(j.1==(0:Int))
 ·rw[h0,cond_false] at hj
  cases h1:(j.1==(1:Int))
  ·rw[h1,cond_false] at hj
   simp only[cond_false]
   rw[Bool.and_eq_true,Bool.and_eq_true] at hj ⊢
   exact⟨hj.1,hj.2.1,h _ hj.2.2⟩
  ·rfl
 ·rw[h0,cond_true] at hj
  exact hj
theorem all_mono {L L':List Int} (h:∀l,L.contains l=true→L'.contains l=true) {H:List tItem.den} (hj:H.all (jOk L)=true):H.all (jOk L')=true :=
 List.all_eq_true.2 fun j hm=>jOk_mono h j (List.all_eq_true.1 hj j hm)
theorem sumL_all {L:List Int} (n:Int):(its [movw 3 (lo false n),addI 4 1 3]).all (jOk L)=true:=by
 show(opK (insI 3 3 0 0 0 (lo false n) 0)&&(true&&true))=true
 rw[opK_lo 3 n (by omega)]
 rfl
theorem gate_labs (i o r:Nat) (b:Bool):labsL (gateH i o r b)=bif b then[20,21,22,23,0,1,2,3,4,5,6,7,8,9,10,11,12] else[20,21,0,1,2,3,4,5,6,7,8,9,10,11,12]:=by
 cases b
 ·kernel_rfl
 ·kernel_rfl
theorem hand_sub (l:Int) (h:([0,1,2,3,4,5,6,7,8,9,10,11,12]:List Int).contains l=true) (b:Bool):(bif b then[20,21,22,23,0,1,2,3,4,5,6,7,8,9,10,11,12] else[20,21,0,1,2,3,4,5,6,7,8,9,10,11,12]:List Int).contains l=true:=by
 have h:=List.contains_iff_mem.1 h
 refine List.contains_iff_mem.2 ?_
 cases b
 ·exact List.mem_append_right [20,21] h
 ·exact List.mem_append_right [20,21,22,23] h
theorem gateL_all (i o:Int) (b:Bool):(gateL false b b i o 0 20).all (jOk (bif b then[20,21,22,23,0,1,2,3,4,5,6,7,8,9,10,11,12] else[20,21,0,1,2,3,4,5,6,7,8,9,10,11,12]))=true:=by
 cases b
 ·unfold gateL
  dsimp only
  simp only[List.all_append]
  rw[headL_all _ (by kernel_rfl),tailL_all (by kernel_rfl),sumL_all]
  kernel_rfl
 ·unfold gateL
  dsimp only
  simp only[List.all_append]
  rw[headL_all _ (by kernel_rfl),tailL_all (by kernel_rfl),sumL_all,headL_all _ (by kernel_rfl),tailL_all (by kernel_rfl)]
  kernel_rfl
theorem gate_len (i o r:Nat) (b:Bool):(gateH i o r b).length=bif b then 177 else 146:=by
 cases b
 ·kernel_rfl
 ·kernel_rfl
theorem gate_cnt (i o r:Nat) (b:Bool):cntL 0 (gateH i o r b)=gateQ b+(bif b then 7 else 6):=gate_h i o r 0 b
theorem gate_plen (i o r:Nat) (b:Bool):(stripL (fun l=>cntL l (gateH i o r b)) (gateH i o r b)).length=bif b then 160 else 131:=by
 cases b
 ·kernel_rfl
 ·kernel_rfl
theorem gate_code (i o r:Nat) (b:Bool):CodeOk (gateH i o r b):=by
 refine⟨?_,?_,?_,?_,?_⟩
 ·rw[gate_labs]
  unfold gateH
  rw[List.all_append,gateL_all,Bool.true_and]
  refine all_mono (fun l h=>hand_sub l ?_ b) (hand_all o r b)
  rw[hand_labs] at h
  exact h
 ·rw[gate_labs]
  cases b<;>decide
 ·rw[gate_labs]
  cases b<;>decide
 ·rw[gate_cnt,gate_plen]
  cases b<;>decide
 ·rw[gate_len]
  cases b<;>decide
def dblP:PI→PI
 | .op i=>.op i
 | .br o c t=>.br o c (2*t)
theorem allV_labs:∀H:List tItem.den,labsL (allV H)=labsL H
 |[]=>rfl
 |j::H=>by
  have ih:=allV_labs H
  rw[allV_cons]
  cases h:(j.1==(1:Int))
  ·have h':(j.1 != (1:Int))=true:=by unfold bne;rw[h];rfl
   rw[h',cond_true]
   simp only[List.cons_append,List.nil_append,labsL,h,cond_false]
   exact ih
  ·have h':(j.1 != (1:Int))=false:=by unfold bne;rw[h];rfl
   rw[h',cond_false]
   simp only[List.cons_append,List.nil_append,labsL,h,cond_true]
   rw[ih]
theorem allV_cnt (l:Int):∀H:List tItem.den,cntL l (allV H)=2*cntL l H
 |[]=>rfl
 |j::H=>by
  have ih:=allV_cnt l H
  rw[allV_cons]
  cases h:(j.1==(1:Int))
  ·have h':(j.1 != (1:Int))=true:=by unfold bne;rw[h];rfl
   rw[h',cond_true]
   simp only[List.cons_append,List.nil_append,cntL,h,cond_false]
   omega
  ·have h':(j.1 != (1:Int))=false:=by unfold bne;rw[h];rfl
   rw[h',cond_false]
   simp only[List.cons_append,List.nil_append,cntL,h,cond_true]
   rw[ih]
   cases (j.2.1==l)<;>rfl
theorem strip_dbl (f:Int→Nat):∀H:List tItem.den,stripL (fun l=>2*f l) (allV H)=(stripL f H).flatMap fun p=>[dblP p,dblP p]
 |[]=>rfl
 |j::H=>by
  have ih:=strip_dbl f H
  have e:piL (fun l=>2*f l) j=dblP (piL f j):=by
   unfold piL
   cases (j.1==(2:Int))<;>rfl
  rw[allV_cons]
  cases h:(j.1==(1:Int))
  ·have h':(j.1 != (1:Int))=true:=by unfold bne;rw[h];rfl
   rw[h',cond_true]
   simp only[List.cons_append,List.nil_append,stripL,h,cond_false,List.flatMap_cons]
   rw[ih,e]
  ·have h':(j.1 != (1:Int))=false:=by unfold bne;rw[h];rfl
   rw[h',cond_false]
   simp only[List.cons_append,List.nil_append,stripL,h,cond_true]
   rw[ih]
theorem dbl_strip (H:List tItem.den):stripL (fun l=>cntL l (allV H)) (allV H)=(stripL (fun l=>cntL l H) H).flatMap fun p=>[dblP p,dblP p]:=by
 rw[←strip_dbl]
 congr 1
 funext l
 exact allV_cnt l H
theorem two_len {α:Type} (g:α→α):∀l:List α,(l.flatMap fun p=>[g p,g p]).length=2*l.length
 |[]=>rfl
 |p::l=>by
  rw[List.flatMap_cons,List.length_append,two_len g l]
  simp only[List.length_cons,List.length_nil]
  omega
theorem allV_len:∀H:List tItem.den,(allV H).length≤2*H.length
 |[]=>Nat.le_refl _
 |j::H=>by
  have ih:=allV_len H
  rw[allV_cons,List.length_append,List.length_cons]
  cases (j.1 != (1:Int))
  ·show 1+_≤_
   omega
  ·show 2+_≤_
   omega
theorem dup_code {H:List tItem.den} (hc:CodeOk H) (hl:H.length≤1000):CodeOk (allV H):=by
 refine⟨?_,by rw[allV_labs];exact hc.nodup,by rw[allV_labs];exact hc.lab,?_,?_⟩
 ·rw[allV_labs]
  refine List.all_eq_true.2 fun j hj=>?_
  unfold allV at hj
  obtain⟨i,hi,hji⟩:=List.mem_flatMap.1 hj
  have:=List.all_eq_true.1 hc.all i hi
  have e:j=i:=by
   revert hji
   cases (i.1 != (1:Int))<;>simp
  rw[e]
  exact this
 ·rw[allV_cnt,dbl_strip,two_len]
  have:=hc.cnt
  omega
 ·have:=allV_len H
  omega
theorem case_facts {I M:Int} {l:List tStore.den} {u:Bool} (h:qcU (I,M,l,u,())=true):∃i m:Nat,I=(i:Int)∧M=(m:Int)∧i≤8∧m≤8:=by
 have h:(decide (I≥0)&&(decide (I≤8)&&(decide (M≥0)&&decide (M≤8))))=true:=h
 simp only[Bool.and_eq_true,decide_eq_true_eq] at h
 exact⟨I.toNat,M.toNat,by omega,by omega,by omega,by omega⟩
def caseS (i m:Nat):tSizes.den:=((0:Int),((4*m:Nat):Int),((4*(i+m+1):Nat):Int),())
def caseL (i m:Nat) (l:List tStore.den) (u:Bool):List tStore.den:=bothL (l.take 20)++(bif u&&decide (0<m) then[(2,(i:Int),bxor .i64 (lastF (i:Int) (l.take 20) 0) 1,())] else[])
def caseC (i m:Nat) (b tw:Bool):List tItem.den:=bif tw then allV (gateH (4*i) (4*m) (4*(i+m+1)) b) else gateH (4*i) (4*m) (4*(i+m+1)) b
theorem caseL_len (i m:Nat) (l:List tStore.den) (u:Bool):(putsI (caseS i m) (caseL i m l u)).length≤205:=by
 have a:=puts_len (caseS i m) (caseL i m l u)
 unfold caseL at a ⊢
 rw[List.length_append,bothL_len,List.length_take] at a
 have h2:(bif u&&decide (0<m) then[((2:Int),(i:Int),bxor .i64 (lastF (i:Int) (l.take 20) 0) 1,())] else[]:List tStore.den).length≤1:=by
  cases u&&decide (0<m)
  ·exact Nat.zero_le _
  ·exact Nat.le_refl _
 omega
theorem case_code (i m:Nat) (b tw:Bool):CodeOk (caseC i m b tw):=by
 unfold caseC
 cases tw
 ·exact gate_code _ _ _ b
 ·exact dup_code (gate_code _ _ _ b) (by rw[gate_len];cases b<;>decide)
theorem case_sizes (i m:Nat) (l:List tStore.den) (u:Bool) (hi:i≤8) (hm:m≤8):qR ((i:Int),(m:Int),l,u,())=caseS i m:=by
 show((0:Int),w64 (4*(m:Int)),w64 (w64 (w64 (4*(i:Int))+w64 (4*(m:Int)))+4),())=_
 rw[w64_id (n:=4*(m:Int)) (by omega) (by omega),w64_id (n:=4*(i:Int)) (by omega) (by omega),w64_id (n:=4*(i:Int)+4*(m:Int)) (by omega) (by omega),w64_id (by omega) (by omega)]
 unfold caseS
 rw[show 4*(m:Int)=((4*m:Nat):Int) by omega,show 4*(i:Int)+((4*m:Nat):Int)+4=((4*(i+m+1):Nat):Int) by omega]
theorem case_codeX (i m:Nat) (l:List tStore.den) (u b tw:Bool) (hi:i≤8) (hm:m≤8):gateX (((i:Int),(m:Int),l,u,()),b,tw)++handX (((i:Int),(m:Int),l,u,()),b,tw)=gateH (4*i) (4*m) (4*(i+m+1)) b∧codeX (((i:Int),(m:Int),l,u,()),b,tw)=caseC i m b tw:=by
 have e1:gateX (((i:Int),(m:Int),l,u,()),b,tw)=gateL false b b ((4*i:Nat):Int) ((4*m:Nat):Int) 0 20:=by
  show qhq (w64 (4*(i:Int)),(qR ((i:Int),(m:Int),l,u,())).2.1,b,0,20)=_
  rw[case_sizes i m l u hi hm,w64_id (by omega) (by omega),show 4*(i:Int)=((4*i:Nat):Int) by omega]
  rfl
 have e2:handX (((i:Int),(m:Int),l,u,()),b,tw)=handH (4*m) (4*(i+m+1)) b:=by
  show qbD (qR ((i:Int),(m:Int),l,u,()),b,0,1)=_
  rw[case_sizes i m l u hi hm]
  exact hand_V _ _ _
 have e:gateX (((i:Int),(m:Int),l,u,()),b,tw)++handX (((i:Int),(m:Int),l,u,()),b,tw)=gateH (4*i) (4*m) (4*(i+m+1)) b:=by
  rw[e1,e2]
  rfl
 refine⟨e,?_⟩
 unfold codeX caseC
 rw[e]
 rfl
theorem builtT_val (i m:Nat) (l:List tStore.den) (u b tw:Bool) (hi:i≤8) (hm:m≤8) (pre:List tIns.den) (hpre:∀j∈pre,opK j=true) (hlen:pre.length≤205) :
  (builtT (((i:Int),(m:Int),l,u,()),b,tw) (its pre)).val=some (qF (its pre++caseC i m b tw,caseS i m,0),((pre.length:Nat):Int),()):=by
 obtain⟨c1,c2⟩:=case_codeX i m l u b tw hi hm
 have hsz:=case_sizes i m l u hi hm
 obtain⟨g,_⟩:=img_part hpre (by omega) (case_code i m b tw) (4*m) (4*(i+m+1)) (by omega) (by omega) (by omega) (by omega)
 have hgl:(gateX (((i:Int),(m:Int),l,u,()),b,tw)).length+(handX (((i:Int),(m:Int),l,u,()),b,tw)).length≤177:=by
  rw[←List.length_append,c1,gate_len]
  cases b<;>decide
 have hcl:=(case_code i m b tw).len
 have hil:(its pre).length=pre.length:=by unfold its;rw[List.length_map]
 unfold builtT
 refine(val_yes ?_).trans ((val_yes ?_).trans ((val_yes ?_).trans ((val_yes ?_).trans ?_)))
 ·rw[Nat.ble_eq]
  show((gateX (((i:Int),(m:Int),l,u,()),b,tw)).length+(handX (((i:Int),(m:Int),l,u,()),b,tw)).length)*80≤_
  omega
 ·show(bif tw then qhZ (gateX _++handX _) else true)=true
  cases tw
  ·rfl
  ·rw[c1,cond_true]
   unfold qhZ
   rw[gate_len]
   cases b<;>decide
 ·rw[Nat.ble_eq,c2,hil]
  omega
 ·dsimp only
  rw[c2,hsz]
  exact g
 ·dsimp only
  rw[c2,hsz]
  unfold lenI
  rw[hil]
  generalize qF (its pre++caseC i m b tw,caseS i m,0)=q
  rfl
theorem built_val (i m:Nat) (l:List tStore.den) (u b tw:Bool) (hi:i≤8) (hm:m≤8) :
  qcd (((i:Int),(m:Int),l,u,()),b,tw)=true∧qo (((i:Int),(m:Int),l,u,()),b,tw) =
   (qF (its (putsI (caseS i m) (caseL i m l u))++caseC i m b tw,caseS i m,0),(((putsI (caseS i m) (caseL i m l u)).length:Nat):Int),()):=by
 have hsz:=case_sizes i m l u hi hm
 have hlen:=caseL_len i m l u
 have hB:=builtT_val i m l u b tw hi hm (putsI (caseS i m) (caseL i m l u)) (puts_opK _ _) hlen
 have hT:(qcf (((i:Int),(m:Int),l,u,()),b,tw)).val=some (qF (its (putsI (caseS i m) (caseL i m l u))++caseC i m b tw,caseS i m,0),(((putsI (caseS i m) (caseL i m l u)).length:Nat):Int),()):=by
  unfold qcf
  refine(val_opt (ahead_val ((i:Int),(m:Int),l,u,()) _)).trans ?_
  dsimp only
  rw[hsz]
  have hd:decide ((m:Int) > 0)=decide (0<m):=decide_eq_decide.2 (by omega)
  rw[hd]
  unfold caseL at hB hlen ⊢
  rw[←puts_its,putsL_app] at hB ⊢
  cases hu:(u&&decide (0<m))
  ·rw[hu] at hB
   refine(val_no rfl).trans ?_
   have e:putsL (caseS i m) []=[]:=rfl
   rw[cond_false,e,List.append_nil] at hB ⊢
   exact hB
  ·rw[hu] at hB
   rw[cond_true] at hB ⊢
   obtain⟨g,v⟩:=last_val (i:Int) (m:Int) l u (i:Int)
   refine(val_yes rfl).trans ((val_yes g).trans ?_)
   rw[v]
   refine(putT_val _ _ _ _ ?_).trans hB
   rw[putsL_len]
   have a:=puts_len (caseS i m) (bothL (l.take 20))
   rw[bothL_len,List.length_take] at a
   omega
 exact⟨by unfold qcd;rw[hT];rfl,by unfold qo PO.getO;rw[hT];rfl⟩
end Go.Av
end
section
namespace Go.Av
open Go
theorem bxor_one_ne (v:Int):wn (bxor .i64 v 1)≠wn v:=by
 rw[xor_wn]
 have e:wn 1=1:=rfl
 rw[e]
 intro h
 have h2:wn v ^^^ (wn v ^^^ 1)=wn v ^^^ wn v:=by rw[h]
 rw[←Nat.xor_assoc,Nat.xor_self,Nat.zero_xor] at h2
 cases h2
theorem case_run (i m:Nat) (l:List tStore.den) (u b tw:Bool) (hi:i≤8) (hm:m≤8) :
  ∃(n:Nat) (s1:IS),SzOk (4*m) (4*(i+m+1)) n ∧
   (∀t,t<m→s1.2.2 (537133056+4*(i+t))=wn (imgV i l t)) ∧
   ((u&&decide (0<m))=false→∀t,t<m→s1.2.2 (537395200+4*(i+t))=wn (imgV i l t)) ∧
   ((u&&decide (0<m))=true→s1.2.2 (537395200+4*i)≠wn (imgV i l 0)) ∧
   ∀(f:tFault.den),qt f=0→((((putsI (caseS i m) (caseL i m l u)).length:Nat):Int)≤(show Int from f.2.1)∨f=noFault)→∀B:Nat,B≤50000→(putsI (caseS i m) (caseL i m l u)).length≤B →
    ∃cy:Int,∀r,goI (localE (caseC i m b tw) (4*m) (4*(i+m+1)) n) f (B-(putsI (caseS i m) (caseL i m l u)).length) (putsI (caseS i m) (caseL i m l u)).length (false,0,s1)=r →
     qE ((qo (((i:Int),(m:Int),l,u,()),b,tw)).1,[],f,(B:Int)) =
      ((r.2.2.1,(((putsI (caseS i m) (caseL i m l u)).length+r.1:Nat):Int),cy,((r.2.1:Nat):Int),((r.2.2.2.2.2.2 537919488:Nat):Int),((r.2.2.2.2.2.2 538968064:Nat):Int),
       bytesW r.2.2.2.2.2.2 537001984 (4*m),bytesW r.2.2.2.2.2.2 537133056 (4*(i+m+1)),bytesW r.2.2.2.2.2.2 537395200 (4*(i+m+1)),()),0,()):=by
 obtain⟨_,hV⟩:=built_val i m l u b tw hi hm
 have hlen:=caseL_len i m l u
 have hcode:=case_code i m b tw
 obtain⟨_,hd,adr,k,him,hk⟩:=img_part (pre:=putsI (caseS i m) (caseL i m l u)) (H:=caseC i m b tw) (puts_opK _ _) (by omega) hcode (4*m) (4*(i+m+1)) (by omega) (by omega) (by omega) (by omega)
 have hV1:(qo (((i:Int),(m:Int),l,u,()),b,tw)).1=qF (its (putsI (caseS i m) (caseL i m l u))++caseC i m b tw,((0:Int),((4*m:Nat):Int),((4*(i+m+1):Nat):Int),()),0):=by
  rw[hV]
  rfl
 rw[hV1]
 generalize qF (its (putsI (caseS i m) (caseL i m l u))++caseC i m b tw,((0:Int),((4*m:Nat):Int),((4*(i+m+1):Nat):Int),()),0)=img at *
 have hs:SzOk (4*m) (4*(i+m+1)) img.length:=him.prg.sz
 obtain⟨ρ1,e1⟩:=puts_exec (E:=⟨prgTo (its (putsI (caseS i m) (caseL i m l u))++caseC i m b tw) (its (putsI (caseS i m) (caseL i m l u))++caseC i m b tw).length,4*m,4*(i+m+1),img.length,cntI (its (putsI (caseS i m) (caseL i m l u))++caseC i m b tw) k⟩) hs (caseL i m l u) (beginS (4*m) (4*(i+m+1)) img.length img)
 have e1:execL ⟨prgTo (its (putsI (caseS i m) (caseL i m l u))++caseC i m b tw) (its (putsI (caseS i m) (caseL i m l u))++caseC i m b tw).length,4*m,4*(i+m+1),img.length,cntI (its (putsI (caseS i m) (caseL i m l u))++caseC i m b tw) k⟩ (putsI (caseS i m) (caseL i m l u)) (beginS (4*m) (4*(i+m+1)) img.length img)=some (ρ1,(beginS (4*m) (4*(i+m+1)) img.length img).2.1,putsW (caseS i m) (caseL i m l u) (beginS (4*m) (4*(i+m+1)) img.length img).2.2):=e1
 have z0:∀b' t,(b'=537133056∨b'=537395200)→t<i+m+1→(beginS (4*m) (4*(i+m+1)) img.length img).2.2 (b'+4*t)=wn 0:=fun b' t hb ht=>by
  refine begin_zero hs (by omega) (by omega) (by omega) img rfl ?_
  rcases hb with rfl |rfl
  ·rw[(regR_a hs t (by omega)).1];rfl
  ·rw[(regR_b hs t (by omega)).1];rfl
 have zz:∀t,t<i+m+1→putsW (caseS i m) (bothL (l.take 20)) (beginS (4*m) (4*(i+m+1)) img.length img).2.2 (537133056+4*t)=wn (lastF (t:Int) (l.take 20) 0)∧putsW (caseS i m) (bothL (l.take 20)) (beginS (4*m) (4*(i+m+1)) img.length img).2.2 (537395200+4*t)=wn (lastF (t:Int) (l.take 20) 0):=fun t ht =>
  both_last (4*m) (i+m+1) (by omega) t ht (l.take 20) _ 0 (z0 _ t (.inl rfl) ht) (z0 _ t (.inr rfl) ht)
 generalize hW0:putsW (caseS i m) (bothL (l.take 20)) (beginS (4*m) (4*(i+m+1)) img.length img).2.2=W0 at zz
 have hW:putsW (caseS i m) (caseL i m l u) (beginS (4*m) (4*(i+m+1)) img.length img).2.2=putsW (caseS i m) (bif u&&decide (0<m) then[(2,(i:Int),bxor .i64 (lastF (i:Int) (l.take 20) 0) 1,())] else[]) W0:=by
  rw[←hW0]
  exact putsW_app _ _ _ _
 rw[hW] at e1
 refine⟨img.length,(ρ1,(beginS (4*m) (4*(i+m+1)) img.length img).2.1,putsW (caseS i m) (bif u&&decide (0<m) then[(2,(i:Int),bxor .i64 (lastF (i:Int) (l.take 20) 0) 1,())] else[]) W0),hs,fun t ht=>?_,fun hu t ht=>?_,fun hu=>?_,fun f hf hfs B hB hpB=>?_⟩
 ·show putsW _ _ W0 _=_
  unfold imgV
  have h1:=(zz (i+t) (by omega)).1
  cases hu:(u&&decide (0<m))
  ·exact h1
  ·rw[←h1]
   exact put_far 2 (i:Int) (bxor .i64 (lastF (i:Int) (l.take 20) 0) 1) (4*m) (i+m+1) (.inr rfl) (by omega) W0 (i+t) 537133056 (.inl ⟨rfl,rfl⟩) (by omega)
 ·show putsW _ _ W0 _=_
  unfold imgV
  rw[hu]
  exact(zz (i+t) (by omega)).2
 ·show putsW _ _ W0 _≠_
  unfold imgV
  rw[hu,cond_true]
  have hp:=put_get 2 (i:Int) (bxor .i64 (lastF (i:Int) (l.take 20) 0) 1) (4*m) (i+m+1) (.inr rfl) (by omega) W0 i 537395200 (.inr ⟨rfl,rfl⟩) (by omega)
  rw[beq_self_eq_true,cond_true] at hp
  have hp:putsW (caseS i m) [(2,(i:Int),bxor .i64 (lastF (i:Int) (l.take 20) 0) 1,())] W0 (537395200+4*i)=_:=hp
  rw[hp]
  exact bxor_one_ne _
 ·obtain⟨cy,hrun⟩:=run_behind (puts_opK (caseS i m) (caseL i m l u)) (by omega) hcode (by omega) (by omega) (by omega) him hk e1 f hf hfs (B-(putsI (caseS i m) (caseL i m l u)).length) (by omega)
  rw[show(putsI (caseS i m) (caseL i m l u)).length+(B-(putsI (caseS i m) (caseL i m l u)).length)=B by omega] at hrun
  refine⟨cy,fun r hr=>?_⟩
  rw[hr] at hrun
  exact hrun
theorem out_image (i m:Nat) (l:List tStore.den) (u:Bool) (hi:i≤8) (hm:m≤8) (W:Nat→Nat) (h:∀t,t<m→W (537001984+4*t)=wn (imgV i l t)):bytesW W 537001984 (4*m)=qbg ((i:Int),(m:Int),l,u,()):=by
 rw[(image_val i m l u hi hm).2]
 unfold bytesW
 rw[show 4*m / 4=m by omega]
 refine flat_congr fun t ht=>?_
 have ht:=List.mem_range.1 ht
 rw[h t ht]
 have:=last_in ((i+t:Nat):Int) (l.take 20) 0 (by omega)
 have e:((wn (imgV i l t):Nat):Int)=imgV i l t:=by
  rw[wn_int]
  unfold imgV
  omega
 rw[e]
end Go.Av
end
section
namespace Go.Av
open Go
theorem case_C (i m:Nat) (b:Bool) (n:Nat):localE (caseC i m b false) (4*m) (4*(i+m+1)) n=gateE (4*i) (4*m) (4*(i+m+1)) n b:=rfl
theorem gate_comes (i m n:Nat) (l:List tStore.den) (u b:Bool) (hs:SzOk (4*m) (4*(i+m+1)) n) (hi:i≤8) (hm:m≤8) (s1:IS)
  (hA:∀t,t<m→s1.2.2 (537133056+4*(i+t))=wn (imgV i l t))
  (hB:(u&&decide (0<m))=false→∀t,t<m→s1.2.2 (537395200+4*(i+t))=wn (imgV i l t))
  (hU:(u&&decide (0<m))=true→s1.2.2 (537395200+4*i)≠wn (imgV i l 0)) :
  ((b&&(u&&decide (0<m)))=false→∃k j' s',k≤3000∧Ends (gateE (4*i) (4*m) (4*(i+m+1)) n b) k 0 0 s1 j' s'∧s'.2.2 537919488=3235799053∧∀t,t<m→s'.2.2 (537001984+4*t)=wn (imgV i l t)) ∧
  ((b&&(u&&decide (0<m)))=true→∃k j' s',k≤3000∧Ends (gateE (4*i) (4*m) (4*(i+m+1)) n b) k 1 0 s1 j' s'∧Wp m (i+m+1) s'.2.2∧s'.2.2 538968064=195890093):=by
 have hI:i+m≤i+m+1:=by omega
 have H:=gate_hand (4*i) m (i+m+1) n b hs
 have Q:=gate_q (4*i) (4*m) (4*(i+m+1)) n b
 have ho:=hs.out
 have hr:=hs.rail
 obtain⟨s2,g2,z2,k2⟩:=g_copy (b:=b) hs hI s1
 have hO:∀t,t<m→s2.2.2 (537001984+4*t)=wn (imgV i l t):=fun t ht=>by rw[z2 t ht,hA t ht]
 have hA2:∀t,t<m→s2.2.2 (537133056+4*(i+t))=wn (imgV i l t):=fun t ht=>by rw[k2 _ (fun t' _=>by omega),hA t ht]
 have hB2:∀t,s2.2.2 (537395200+4*(i+t))=s1.2.2 (537395200+4*(i+t)):=fun t=>k2 _ (fun t' _=>by omega)
 have fin:∀(k q:Nat) (s3:IS),QEnd (gateE (4*i) (4*m) (4*(i+m+1)) n b) q→GoTo (gateE (4*i) (4*m) (4*(i+m+1)) n b) k 0 19 s2 q s3→k≤1000→s3.2.2=s2.2.2→∃k j' s',k≤3000∧Ends (gateE (4*i) (4*m) (4*(i+m+1)) n b) k 0 0 s1 j' s'∧s'.2.2 537919488=3235799053∧∀t,t<m→s'.2.2 (537001984+4*t)=wn (imgV i l t):=fun k q s3 Q g hk hw=>by
  obtain⟨s4,g4,w4⟩:=q_run Q (h_commit H).1 s3
  refine⟨_,_,s4,?_,(g2.trans g).ends g4,by rw[w4,updW_same],fun t ht=>?_⟩
  ·show 18*m+5+k+6≤3000
   omega
  ·rw[w4,updW_other _ _ (by omega),hw]
   exact hO t ht
 cases b
 ·exact⟨fun _=>fin 0 19 s2 Q (GoTo.refl _ _ _) (by omega) rfl,fun h=>by cases h⟩
 ·obtain⟨a1,a2⟩:=g_look hs hI s2
  constructor
  ·intro hu
   have hu:(u&&decide (0<m))=false:=hu
   obtain⟨s3,g3,w3⟩:=a1 (fun t ht=>by rw[hO t ht,hA2 t ht,hB2 t,hB hu t ht];exact⟨rfl,rfl⟩)
   exact fin _ 46 s3 Q g3 (by omega) w3
  ·intro hu
   have hu:(u&&decide (0<m))=true:=hu
   have hm0:0<m:=by
    rw[Bool.and_eq_true,decide_eq_true_eq] at hu
    exact hu.2
   obtain⟨k,s3,hk,g3,_⟩:=a2 ⟨0,hm0,fun he=>hU hu (by
    have h2:=he.2
    rw[hO 0 hm0,hB2 0] at h2
    exact h2.symm)⟩
   have e53:(53:Nat)=(gateE (4*i) (4*m) (4*(i+m+1)) n true).h:=(gate_h (4*i) (4*m) (4*(i+m+1)) n true).symm
   rw[e53] at g3
   obtain⟨s4,g4,w4,t4⟩:=h_run H s3
   have g:=(g2.trans g3).ends g4
   refine⟨_,_,s4,?_,g,w4,t4⟩
   unfold hSteps
   omega
theorem qiU (x:dens qO) (_:fitsAll maxLen qO x):(qdB x).val=some true:=by
 obtain⟨⟨I,M,l,u,z⟩,b⟩:=x
 unfold qdB
 dsimp only
 cases hm:qcU (I,M,l,u,())
 ·exact(val_yes rfl).trans rfl
 ·obtain⟨i,m,rfl,rfl,hi,hm8⟩:=case_facts hm
  obtain⟨hG,_⟩:=built_val i m l u b false hi hm8
  have hlen:=caseL_len i m l u
  obtain⟨n,s1,hs,hA,hB,hU,hR⟩:=case_run i m l u b false hi hm8
  obtain⟨cy,hrun⟩:=hR noFault noF_check (.inr rfl) 20000 (by omega) (by omega)
  rw[case_C] at hrun
  obtain⟨c1,c2⟩:=gate_comes i m n l u b hs hi hm8 s1 hA hB hU
  have hgo:∀{k c j':Nat} {s':IS},Ends (gateE (4*i) (4*m) (4*(i+m+1)) n b) k c 0 s1 j' s'→k≤3000→goI (gateE (4*i) (4*m) (4*(i+m+1)) n b) noFault (20000-(putsI (caseS i m) (caseL i m l u)).length) (putsI (caseS i m) (caseL i m l u)).length (false,0,s1)=(k,c,true,j',s'):=fun h hk=>by
   rw[goI_none]
   exact ends_more h (by omega)
  have hd:decide ((m:Int) > 0)=decide (0<m):=decide_eq_decide.2 (by omega)
  rw[hd]
  refine(val_no rfl).trans ((val_yes hG).trans ?_)
  generalize hk0:(putsI (caseS i m) (caseL i m l u)).length=k0 at *
  cases hbu:(b&&(u&&decide (0<m)))
  ·obtain⟨k,j',s',hk,g,hc,hX⟩:=c1 hbu
   have hr:=hrun _ (hgo g hk)
   dsimp only at hr
   have hr:qE ((qo (((i:Int),(m:Int),l,u,()),b,false)).1,[],(0,0,0,0,()),20000)=_:=hr
   have hO:=out_image i m l u hi hm8 s'.2.2 hX
   obtain⟨gI,_⟩:=image_val i m l u hi hm8
   rw[hO,hc] at hr
   generalize qbg ((i:Int),(m:Int),l,u,())=X at *
   generalize bytesW s'.2.2 537133056 (4*(i+m+1))=Y at *
   generalize bytesW s'.2.2 537395200 (4*(i+m+1))=Z at *
   rw[hr]
   dsimp only
   rw[of_kind]
   refine(val_no rfl).trans ((val_no rfl).trans ((val_yes ?_).trans ?_))
   ·show(qbA ((i:Int),(m:Int),l,u,())&&bif X==X then true else true)=true
    rw[gI]
    cases (X==X)<;>rfl
   ·show some (true&&(X==X&&(true&&true)))=some true
    rw[beq_self_eq_true]
    rfl
  ·obtain⟨k,j',s',hk,g,hw,hst⟩:=c2 hbu
   have hr:=hrun _ (hgo g hk)
   dsimp only at hr
   have hr:qE ((qo (((i:Int),(m:Int),l,u,()),b,false)).1,[],(0,0,0,0,()),20000)=_:=hr
   have z1:=bytesW_zero (W:=s'.2.2) (b:=537001984) (n:=4*m) (fun t ht=>hw.out t (by omega))
   have z2:=bytesW_zero (W:=s'.2.2) (b:=537133056) (n:=4*(i+m+1)) (fun t ht=>hw.a t (by omega))
   have z3:=bytesW_zero (W:=s'.2.2) (b:=537395200) (n:=4*(i+m+1)) (fun t ht=>hw.b t (by omega))
   have l1:=bytesW_len s'.2.2 537001984 (4*m) (by omega)
   have l2:=bytesW_len s'.2.2 537133056 (4*(i+m+1)) (by omega)
   have l3:=bytesW_len s'.2.2 537395200 (4*(i+m+1)) (by omega)
   rw[hw.commit,hst] at hr
   generalize bytesW s'.2.2 537001984 (4*m)=X at *
   generalize bytesW s'.2.2 537133056 (4*(i+m+1))=Y at *
   generalize bytesW s'.2.2 537395200 (4*(i+m+1))=Z at *
   obtain⟨w1,w2⟩:=wiped_val true ((k0+k:Nat):Int) cy ((1:Nat):Int) ((0:Nat):Int) ((195890093:Nat):Int) X Y Z (by omega) (by omega) (by omega)
   rw[z1,z2,z3] at w2
   rw[hr]
   dsimp only
   rw[of_kind,w1,w2]
   refine(val_no rfl).trans ((val_yes rfl).trans ((val_yes rfl).trans rfl))
end Go.Av
end
