/- Texts of the proof, one behind the other. -/
import Derived.Test.YtealbjacocgjcaaGreatGateSkipsK33
import Derived.Test.YtealbjacocgjcaaGreatGateSkipsK32
section
namespace Go.Av
open Go
theorem putsW_app (sz:tSizes.den):∀(a b:List tStore.den) (W:Nat→Nat),putsW sz (a++b) W=putsW sz b (putsW sz a W)
 |[],_,_=>rfl
 |_::a,b,_=>putsW_app sz a b _
theorem put_get (wh at_ w:Int) (o mr:Nat) (hwh:wh=1∨wh=2) (hmr:mr≤16384) (W:Nat→Nat) (t:Nat) (b:Nat) (hb:(b=537133056∧wh=1)∨(b=537395200∧wh=2)) (ht:t<mr) :
  (bif putBad (wh,at_,w,()) ((0:Int),(o:Int),((4*mr:Nat):Int),()) then W else updW W (putA (wh,at_,w,())).toNat (wn w)) (b+4*t)=bif at_==(t:Int) then wn w else W (b+4*t):=by
 have hN:putN (wh,at_,w,()) ((0:Int),(o:Int),((4*mr:Nat):Int),())=((4*mr:Nat):Int):=by rcases hwh with rfl |rfl<;>rfl
 have hB:putB (wh,at_,w,())=(b:Int):=by rcases hb with⟨rfl,rfl⟩ |⟨rfl,rfl⟩<;>rfl
 have hbl:b≤537395200:=by omega
 have hd:w64 (Int.tdiv ((4*mr:Nat):Int) 4)=(mr:Int):=by
  rw[Int.tdiv_eq_ediv_of_nonneg (by omega),w64_id (by omega) (by omega)]
  omega
 cases hp:putBad (wh,at_,w,()) ((0:Int),(o:Int),((4*mr:Nat):Int),())
 ·unfold putBad at hp
  rw[hN,hd,Bool.or_eq_false_iff] at hp
  have h0:(0:Int)≤at_:=Int.not_lt.1 (of_decide_eq_false hp.1)
  have h1:at_<(mr:Int):=Int.not_le.1 (of_decide_eq_false hp.2)
  have hA:(putA (wh,at_,w,())).toNat=b+4*at_.toNat:=by
   unfold putA
   rw[hB]
   show(w64 ((b:Int)+w64 (4*at_))).toNat=_
   rw[w64_id (n:=4*at_) (by omega) (by omega),w64_id (by omega) (by omega)]
   omega
  rw[cond_false,hA]
  cases he:(at_==(t:Int))
  ·have:at_≠(t:Int):=by simpa using he
   rw[cond_false,updW_other _ _ (by omega)]
  ·have:at_=(t:Int):=by simpa using he
   rw[cond_true,show b+4*t=b+4*at_.toNat by omega,updW_same]
 ·unfold putBad at hp
  rw[hN,hd,Bool.or_eq_true,decide_eq_true_eq,decide_eq_true_eq] at hp
  have hp:at_<0∨at_≥(mr:Int):=hp
  have he:(at_==(t:Int))=false:=beq_eq_false_iff_ne.2 (by omega)
  rw[he]
  rfl
theorem put_far (wh at_ w:Int) (o mr:Nat) (hwh:wh=1∨wh=2) (hmr:mr≤16384) (W:Nat→Nat) (t:Nat) (b:Nat) (hb:(b=537133056∧wh=2)∨(b=537395200∧wh=1)) (ht:t<mr) :
  (bif putBad (wh,at_,w,()) ((0:Int),(o:Int),((4*mr:Nat):Int),()) then W else updW W (putA (wh,at_,w,())).toNat (wn w)) (b+4*t)=W (b+4*t):=by
 have hN:putN (wh,at_,w,()) ((0:Int),(o:Int),((4*mr:Nat):Int),())=((4*mr:Nat):Int):=by rcases hwh with rfl |rfl<;>rfl
 obtain⟨c,hB,hc⟩:∃c:Nat,putB (wh,at_,w,())=(c:Int)∧((b=537133056∧c=537395200)∨(b=537395200∧c=537133056)):=by
  rcases hb with⟨rfl,rfl⟩ |⟨rfl,rfl⟩
  ·exact⟨537395200,rfl,.inl ⟨rfl,rfl⟩⟩
  ·exact⟨537133056,rfl,.inr ⟨rfl,rfl⟩⟩
 have hd:w64 (Int.tdiv ((4*mr:Nat):Int) 4)=(mr:Int):=by
  rw[Int.tdiv_eq_ediv_of_nonneg (by omega),w64_id (by omega) (by omega)]
  omega
 cases hp:putBad (wh,at_,w,()) ((0:Int),(o:Int),((4*mr:Nat):Int),())
 ·unfold putBad at hp
  rw[hN,hd,Bool.or_eq_false_iff] at hp
  have h0:(0:Int)≤at_:=Int.not_lt.1 (of_decide_eq_false hp.1)
  have h1:at_<(mr:Int):=Int.not_le.1 (of_decide_eq_false hp.2)
  have hA:(putA (wh,at_,w,())).toNat=c+4*at_.toNat:=by
   unfold putA
   rw[hB]
   show(w64 ((c:Int)+w64 (4*at_))).toNat=_
   rw[w64_id (n:=4*at_) (by omega) (by omega),w64_id (by omega) (by omega)]
   omega
  rw[cond_false,hA,updW_other _ _ (by omega)]
 ·rfl
def bothL (l:List tStore.den):List tStore.den:=l.flatMap fun x=>[(1,x.2),(2,x.2)]
def lastF (at_:Int) (l:List tStore.den) (w0:Int):Int:=l.foldl (fun w x=>bif x.2.1==at_ then band .i64 x.2.2.1 4294967295 else w) w0
theorem both_last (o mr:Nat) (hmr:mr≤16384) (t:Nat) (ht:t<mr):∀(l:List tStore.den) (W:Nat→Nat) (w0:Int),W (537133056+4*t)=wn w0→W (537395200+4*t)=wn w0 →
  putsW ((0:Int),(o:Int),((4*mr:Nat):Int),()) (bothL l) W (537133056+4*t)=wn (lastF t l w0)∧putsW ((0:Int),(o:Int),((4*mr:Nat):Int),()) (bothL l) W (537395200+4*t)=wn (lastF t l w0)
 |[],W,w0,h1,h2=>⟨h1,h2⟩
 |(wh,at_,w,u)::l,W,w0,h1,h2=>by
  have e:bothL ((wh,at_,w,u)::l)=(1,at_,w,())::(2,at_,w,())::bothL l:=rfl
  rw[e,putsW,putsW]
  have hb:wn (band .i64 w 4294967295)=wn w:=by rw[band_wn,wn_wn]
  refine both_last o mr hmr t ht l _ (bif at_==(t:Int) then band .i64 w 4294967295 else w0) ?_ ?_
  ·rw[put_far 2 at_ w o mr (.inr rfl) hmr _ t 537133056 (.inl ⟨rfl,rfl⟩) ht,put_get 1 at_ w o mr (.inl rfl) hmr W t 537133056 (.inl ⟨rfl,rfl⟩) ht,h1]
   cases (at_==(t:Int))
   ·rfl
   ·exact hb.symm
  ·rw[put_get 2 at_ w o mr (.inr rfl) hmr _ t 537395200 (.inr ⟨rfl,rfl⟩) ht,put_far 1 at_ w o mr (.inl rfl) hmr W t 537395200 (.inr ⟨rfl,rfl⟩) ht,h2]
   cases (at_==(t:Int))
   ·rfl
   ·exact hb.symm
theorem last_in (at_:Int):∀(l:List tStore.den) (w0:Int),0≤w0∧w0<4294967296→0≤lastF at_ l w0∧lastF at_ l w0<4294967296
 |[],_,h=>h
 |x::l,w0,h=>by
  show 0≤lastF at_ l _∧lastF at_ l _<_
  refine last_in at_ l _ ?_
  show 0≤(bif x.2.1==at_ then band .i64 x.2.2.1 4294967295 else w0)∧(bif x.2.1==at_ then band .i64 x.2.2.1 4294967295 else w0)<4294967296
  cases (x.2.1==at_)
  ·exact h
  ·rw[cond_true,band_wn]
   have:=wn_lt x.2.2.1
   omega
theorem last_val (I M:Int) (l:List tStore.den) (u:Bool) (at_:Int):qbF ((I,M,l,u,()),at_)=true∧qG ((I,M,l,u,()),at_)=lastF at_ (l.take 20) 0:=by
 have hl:LoopN.res qcQ (at_,(),0,0) (I,M,l,u,())=some (0,(lastF at_ (l.take 20) 0,((min l.length 20:Nat):Int),(I,M,l,u,()))):=by
  unfold LoopN.res
  refine runL_count (turn:=qcQ.turn (at_,(),0,0) (I,M,l,u,())) (fun i=>(lastF at_ (l.take i) 0,(i:Int),(I,M,l,u,()))) (0,(lastF at_ (l.take 20) 0,((min l.length 20:Nat):Int),(I,M,l,u,()))) (n:=min l.length 20) (fun i hi=>?_) ?_ (min l.length 20) 0 (by omega) _ (by show min l.length 20<l.length+1;omega)
  ·have h1:i<l.length:=by omega
   have h2:i<20:=by omega
   refine(val_yes ?_).trans ((val_yes (inR h1)).trans ((val_yes ?_).trans ?_))
   ·dsimp only
    rw[dec_true (show(i:Int)<lenI l by simp only[lenI];omega),dec_true (show(i:Int)<20 by omega)]
    rfl
   ·dsimp only
    rw[inR h1]
    cases ((List.getD l (Int.toNat (i:Int)) (Ty.dflt tStore)).2.1==at_)<;>rfl
   ·have hg:List.getD l (Int.toNat (i:Int)) (Ty.dflt tStore)=l[i]:=getD_in l _ h1
    have ht:lastF at_ (l.take (i+1)) 0=bif l[i].2.1==at_ then band .i64 l[i].2.2.1 4294967295 else lastF at_ (l.take i) 0:=by
     rw[List.take_succ_eq_append_getElem h1]
     unfold lastF
     rw[List.foldl_append]
     rfl
    have hw:w64 ((i:Int)+1)=((i+1:Nat):Int):=by rw[w64_id (by omega) (by omega)];omega
    dsimp only
    rw[hg,ht,hw]
    rfl
  ·refine(val_no ?_).trans ?_
   ·dsimp only
    by_cases h:l.length≤20
    ·rw[dec_false (show ¬(((min l.length 20:Nat):Int)<lenI l) by simp only[lenI];omega)]
     rfl
    ·rw[dec_false (show ¬(((min l.length 20:Nat):Int)<20) by omega),Bool.and_false]
   ·have:l.take (min l.length 20)=l.take 20:=by
     rw[List.take_eq_take_iff]
     omega
    dsimp only
    rw[this]
    rfl
 have hT:(qcp ((I,M,l,u,()),at_)).val=some (lastF at_ (l.take 20) 0):=by
  unfold qcp
  exact(val_opt hl).trans rfl
 exact⟨by unfold qbF;rw[hT];rfl,by unfold qG PO.getO;rw[hT];rfl⟩
def imgV (I:Nat) (l:List tStore.den) (i:Nat):Int:=lastF ((I+i:Nat):Int) (l.take 20) 0
def imgI (I:Nat) (l:List tStore.den) (k:Nat):List Int:=(List.range k).flatMap fun i=>[IntKind.wrap .u8 (imgV I l i),IntKind.wrap .u8 (ishr .i64 (imgV I l i) 8),IntKind.wrap .u8 (ishr .i64 (imgV I l i) 16),IntKind.wrap .u8 (ishr .i64 (imgV I l i) 24)]
theorem imgI_next (I:Nat) (l:List tStore.den) (k:Nat):imgI I l (k+1)=imgI I l k++[IntKind.wrap .u8 (imgV I l k),IntKind.wrap .u8 (ishr .i64 (imgV I l k) 8),IntKind.wrap .u8 (ishr .i64 (imgV I l k) 16),IntKind.wrap .u8 (ishr .i64 (imgV I l k) 24)]:=by
 unfold imgI
 rw[List.range_succ,List.flatMap_append]
 simp
theorem imgI_len (I:Nat) (l:List tStore.den):∀k,(imgI I l k).length=4*k
 |0=>rfl
 |k+1=>by
  rw[imgI_next,List.length_append,imgI_len I l k]
  show 4*k+4=_
  omega
theorem four_bytes (v:Int) (h:0≤v∧v<4294967296):[IntKind.wrap .u8 v,IntKind.wrap .u8 (ishr .i64 v 8),IntKind.wrap .u8 (ishr .i64 v 16),IntKind.wrap .u8 (ishr .i64 v 24)].map toByte=qD v:=by
 have e:(qp v:Int)=v:=by
  show((wn v:Nat):Int)=v
  rw[wn_int]
  omega
 have e0:ishr .i64 v 0=v:=by
  have:=ishr_i64 v 0 (by omega)
  have this:ishr .i64 v 0=v / ((2 ^ 0:Nat):Int):=this
  rw[this]
  omega
 show _=bytesOf (shown (List.set (List.set (List.set (List.set [0,0,0,0] (Int.toNat 0) (IntKind.wrap IntKind.u8 (ishr IntKind.i64 (qp v) 0))) (Int.toNat 1) (IntKind.wrap IntKind.u8 (ishr IntKind.i64 (qp v) 8))) (Int.toNat 2) (IntKind.wrap IntKind.u8 (ishr IntKind.i64 (qp v) 16))) (Int.toNat 3) (IntKind.wrap IntKind.u8 (ishr IntKind.i64 (qp v) 24))) (0,4))
 rw[e,e0]
 rfl
theorem image_val (I M:Nat) (l:List tStore.den) (u:Bool) (hI:I≤8) (hM:M≤8):qb7 ((I:Int),(M:Int),l,u,())=true∧q9 ((I:Int),(M:Int),l,u,())=(List.range M).flatMap fun i=>qD (imgV I l i):=by
 have hl:LoopN.res qcI ((),[],0) ((I:Int),(M:Int),l,u,())=some (0,(imgI I l M,(M:Int),((I:Int),(M:Int),l,u,()))):=by
  unfold LoopN.res
  refine runL_count (turn:=qcI.turn ((),[],0) ((I:Int),(M:Int),l,u,())) (fun i=>(imgI I l i,(i:Int),((I:Int),(M:Int),l,u,()))) (0,(imgI I l M,(M:Int),((I:Int),(M:Int),l,u,()))) (n:=M) (fun i hi=>?_) ?_ M 0 (by omega) _ (by show M<Int.toNat (M:Int)+1;omega)
  ·obtain⟨g,v⟩:=last_val (I:Int) (M:Int) l u ((I:Int)+(i:Int))
   have hw:w64 ((I:Int)+(i:Int))=(I:Int)+(i:Int):=w64_id (by omega) (by omega)
   have hw1:w64 ((i:Int)+1)=((i+1:Nat):Int):=by rw[w64_id (by omega) (by omega)];omega
   have hv:qG (((I:Int),(M:Int),l,u,()),(I:Int)+(i:Int))=imgV I l i:=by
    rw[v]
    unfold imgV
    rw[show(I:Int)+(i:Int)=((I+i:Nat):Int) by omega]
   have hlen:=imgI_len I l i
   refine(val_yes (dec_true (show(i:Int)<(M:Int) by omega))).trans ((val_yes ?_).trans ?_)
   ·dsimp only
    rw[hw]
    exact g
   ·dsimp only
    rw[hw,hv,hw1,imgI_next]
    refine(val_yes ?_).trans rfl
    rw[Nat.ble_eq]
    show(List.length (imgI I l i)+4)*1≤_
    omega
  ·exact(val_no (dec_false (show ¬((M:Int)<(M:Int)) by omega))).trans rfl
 have hT:(qca ((I:Int),(M:Int),l,u,())).val=some ((List.range M).flatMap fun i=>qD (imgV I l i)):=by
  unfold qca
  refine(val_opt hl).trans ?_
  show some (List.map toByte (imgI I l M))=_
  unfold imgI
  rw[List.map_flatMap]
  congr 2
  funext i
  exact four_bytes _ (last_in _ _ 0 (by omega))
 exact⟨by unfold qb7;rw[hT];rfl,by unfold q9 PO.getO;rw[hT];rfl⟩
theorem putT_val {α:Type} (base:List tItem.den) (x:tStore.den) (sz:tSizes.den) (K:List tItem.den→PO α) (h:base.length≤900000):(putT base x sz K).val=(K (base++putsL sz [x])).val:=by
 have e:putsL sz [x]=bif putBad x sz then[] else put5 x:=by
  unfold putsL
  simp
 unfold putT
 rw[e]
 cases putBad x sz
 ·refine(val_no rfl).trans ?_
  exact appT_val K (put5 x) base (by
   have:(put5 x).length=5:=rfl
   omega)
 ·refine(val_yes rfl).trans ?_
  rw[cond_true,List.append_nil]
theorem putsL_app (sz:tSizes.den) (a b:List tStore.den):putsL sz (a++b)=putsL sz a++putsL sz b:=by
 unfold putsL
 rw[List.flatMap_append]
theorem putsL_len (sz:tSizes.den) (l:List tStore.den):(putsL sz l).length=(putsI sz l).length:=by
 rw[puts_its]
 unfold its
 rw[List.length_map]
theorem bothL_len (l:List tStore.den):(bothL l).length=2*l.length:=by
 induction l with
 |nil=>rfl
 |cons x l ih =>
  have e:bothL (x::l)=(1,x.2)::(2,x.2)::bothL l:=rfl
  rw[e]
  simp only[List.length_cons]
  omega
theorem ahead_val (c:tCase.den) (sz:tSizes.den):LoopN.res qbC ((),[],(),0) (c,sz)=some (0,(putsL sz (bothL (c.2.2.1.take 20)),((min c.2.2.1.length 20:Nat):Int),c,sz)):=by
 obtain⟨I,M,l,u,z⟩:=c
 show LoopN.res qbC ((),[],(),0) ((I,M,l,u,z),sz)=some (0,(putsL sz (bothL (l.take 20)),((min l.length 20:Nat):Int),(I,M,l,u,z),sz))
 unfold LoopN.res
 refine runL_count (turn:=qbC.turn ((),[],(),0) ((I,M,l,u,z),sz)) (fun i=>(putsL sz (bothL (l.take i)),(i:Int),(I,M,l,u,z),sz)) (0,(putsL sz (bothL (l.take 20)),((min l.length 20:Nat):Int),(I,M,l,u,z),sz)) (n:=min l.length 20) (fun i hi=>?_) ?_ (min l.length 20) 0 (by omega) _ (by show min l.length 20<l.length+1;omega)
 ·have h1:i<l.length:=by omega
  have h2:i<20:=by omega
  refine(val_yes ?_).trans ((val_yes (inR h1)).trans ?_)
  ·dsimp only
   rw[dec_true (show(i:Int)<lenI l by simp only[lenI];omega),dec_true (show(i:Int)<20 by omega)]
   rfl
  ·have hg:List.getD l (Int.toNat (i:Int)) (Ty.dflt tStore)=l[i]:=getD_in l _ h1
   have ht:putsL sz (bothL (l.take (i+1)))=putsL sz (bothL (l.take i))++putsL sz [(1,l[i].2)]++putsL sz [(2,l[i].2)]:=by
    rw[List.take_succ_eq_append_getElem h1]
    have e1:bothL (l.take i++[l[i]])=bothL (l.take i)++([(1,l[i].2)]++[(2,l[i].2)]):=by
     unfold bothL
     rw[List.flatMap_append]
     rfl
    rw[e1,putsL_app,putsL_app,List.append_assoc]
   have hb:(putsL sz (bothL (l.take i))).length≤200:=by
    rw[putsL_len]
    have a:=puts_len sz (bothL (l.take i))
    rw[bothL_len,List.length_take] at a
    omega
   have hb1:(putsL sz [(1,l[i].2)]).length≤5:=by
    rw[putsL_len]
    exact puts_len sz [(1,l[i].2)]
   have hw:w64 ((i:Int)+1)=((i+1:Nat):Int):=by rw[w64_id (by omega) (by omega)];omega
   dsimp only
   rw[hg,ht,hw]
   refine(putT_val _ _ _ _ (by omega)).trans ((putT_val _ _ _ _ ?_).trans rfl)
   rw[List.length_append]
   omega
 ·refine(val_no ?_).trans ?_
  ·dsimp only
   by_cases h:l.length≤20
   ·rw[dec_false (show ¬(((min l.length 20:Nat):Int)<lenI l) by simp only[lenI];omega)]
    rfl
   ·rw[dec_false (show ¬(((min l.length 20:Nat):Int)<20) by omega),Bool.and_false]
  ·have:l.take (min l.length 20)=l.take 20:=by
    rw[List.take_eq_take_iff]
    omega
   dsimp only
   rw[this]
   rfl
end Go.Av
end
section
namespace Go.Av
open Go
end Go.Av
end
section
namespace Go.Av
open Go
theorem jOk_mono {L L':List Int} (h:∀l,L.contains l=true→L'.contains l=true) (j:tItem.den) (hj:jOk L j=true):jOk L' j=true:=by
 unfold jOk at *
 cases h0:(j.1==(0:Int))
 ·rw[h0,cond_false] at hj
  cases h1:(j.1==(1:Int))
  ·rw[h1,cond_false] at hj
   simp only[cond_false]
   rw[Bool.and_eq_true,Bool.and_eq_true] at hj ⊢
   exact⟨hj.1,hj.2.1,h _ hj.2.2⟩
  ·rfl
 ·rw[h0,cond_true] at hj
  exact hj
theorem all_mono {L L':List Int} (h:∀l,L.contains l=true→L'.contains l=true) {H:List tItem.den} (hj:H.all (jOk L)=true):H.all (jOk L')=true :=
 List.all_eq_true.2 fun j hm=>jOk_mono h j (List.all_eq_true.1 hj j hm)
theorem sumL_all {L:List Int} (n:Int):(its [movw 3 (lo false n),addI 4 1 3]).all (jOk L)=true:=by
 show(opK (insI 3 3 0 0 0 (lo false n) 0)&&(true&&true))=true
 rw[opK_lo 3 n (by omega)]
 rfl
theorem gate_labs (i o r:Nat) (b:Bool):labsL (gateH i o r b)=bif b then[20,21,22,23,0,1,2,3,4,5,6,7,8,9,10,11,12] else[20,21,0,1,2,3,4,5,6,7,8,9,10,11,12]:=by
 cases b
 ·kernel_rfl
 ·kernel_rfl
theorem hand_sub (l:Int) (h:([0,1,2,3,4,5,6,7,8,9,10,11,12]:List Int).contains l=true) (b:Bool):(bif b then[20,21,22,23,0,1,2,3,4,5,6,7,8,9,10,11,12] else[20,21,0,1,2,3,4,5,6,7,8,9,10,11,12]:List Int).contains l=true:=by
 have h:=List.contains_iff_mem.1 h
 refine List.contains_iff_mem.2 ?_
 cases b
 ·exact List.mem_append_right [20,21] h
 ·exact List.mem_append_right [20,21,22,23] h
theorem gateL_all (i o:Int) (b:Bool):(gateL false b b i o 0 20).all (jOk (bif b then[20,21,22,23,0,1,2,3,4,5,6,7,8,9,10,11,12] else[20,21,0,1,2,3,4,5,6,7,8,9,10,11,12]))=true:=by
 cases b
 ·unfold gateL
  dsimp only
  simp only[List.all_append]
  rw[headL_all _ (by kernel_rfl),tailL_all (by kernel_rfl),sumL_all]
  kernel_rfl
 ·unfold gateL
  dsimp only
  simp only[List.all_append]
  rw[headL_all _ (by kernel_rfl),tailL_all (by kernel_rfl),sumL_all,headL_all _ (by kernel_rfl),tailL_all (by kernel_rfl)]
  kernel_rfl
theorem gate_len (i o r:Nat) (b:Bool):(gateH i o r b).length=bif b then 177 else 146:=by
 cases b
 ·kernel_rfl
 ·kernel_rfl
theorem gate_cnt (i o r:Nat) (b:Bool):cntL 0 (gateH i o r b)=gateQ b+(bif b then 7 else 6):=gate_h i o r 0 b
theorem gate_plen (i o r:Nat) (b:Bool):(stripL (fun l=>cntL l (gateH i o r b)) (gateH i o r b)).length=bif b then 160 else 131:=by
 cases b
 ·kernel_rfl
 ·kernel_rfl
theorem gate_code (i o r:Nat) (b:Bool):CodeOk (gateH i o r b):=by
 refine⟨?_,?_,?_,?_,?_⟩
 ·rw[gate_labs]
  unfold gateH
  rw[List.all_append,gateL_all,Bool.true_and]
  refine all_mono (fun l h=>hand_sub l ?_ b) (hand_all o r b)
  rw[hand_labs] at h
  exact h
 ·rw[gate_labs]
  cases b<;>decide
 ·rw[gate_labs]
  cases b<;>decide
 ·rw[gate_cnt,gate_plen]
  cases b<;>decide
 ·rw[gate_len]
  cases b<;>decide
def dblP:PI→PI
 | .op i=>.op i
 | .br o c t=>.br o c (2*t)
theorem allV_labs:∀H:List tItem.den,labsL (allV H)=labsL H
 |[]=>rfl
 |j::H=>by
  have ih:=allV_labs H
  rw[allV_cons]
  cases h:(j.1==(1:Int))
  ·have h':(j.1 != (1:Int))=true:=by unfold bne;rw[h];rfl
   rw[h',cond_true]
   simp only[List.cons_append,List.nil_append,labsL,h,cond_false]
   exact ih
  ·have h':(j.1 != (1:Int))=false:=by unfold bne;rw[h];rfl
   rw[h',cond_false]
   simp only[List.cons_append,List.nil_append,labsL,h,cond_true]
   rw[ih]
theorem allV_cnt (l:Int):∀H:List tItem.den,cntL l (allV H)=2*cntL l H
 |[]=>rfl
 |j::H=>by
  have ih:=allV_cnt l H
  rw[allV_cons]
  cases h:(j.1==(1:Int))
  ·have h':(j.1 != (1:Int))=true:=by unfold bne;rw[h];rfl
   rw[h',cond_true]
   simp only[List.cons_append,List.nil_append,cntL,h,cond_false]
   omega
  ·have h':(j.1 != (1:Int))=false:=by unfold bne;rw[h];rfl
   rw[h',cond_false]
   simp only[List.cons_append,List.nil_append,cntL,h,cond_true]
   rw[ih]
   cases (j.2.1==l)<;>rfl
theorem strip_dbl (f:Int→Nat):∀H:List tItem.den,stripL (fun l=>2*f l) (allV H)=(stripL f H).flatMap fun p=>[dblP p,dblP p]
 |[]=>rfl
 |j::H=>by
  have ih:=strip_dbl f H
  have e:piL (fun l=>2*f l) j=dblP (piL f j):=by
   unfold piL
   cases (j.1==(2:Int))<;>rfl
  rw[allV_cons]
  cases h:(j.1==(1:Int))
  ·have h':(j.1 != (1:Int))=true:=by unfold bne;rw[h];rfl
   rw[h',cond_true]
   simp only[List.cons_append,List.nil_append,stripL,h,cond_false,List.flatMap_cons]
   rw[ih,e]
  ·have h':(j.1 != (1:Int))=false:=by unfold bne;rw[h];rfl
   rw[h',cond_false]
   simp only[List.cons_append,List.nil_append,stripL,h,cond_true]
   rw[ih]
theorem dbl_strip (H:List tItem.den):stripL (fun l=>cntL l (allV H)) (allV H)=(stripL (fun l=>cntL l H) H).flatMap fun p=>[dblP p,dblP p]:=by
 rw[←strip_dbl]
 congr 1
 funext l
 exact allV_cnt l H
theorem two_len {α:Type} (g:α→α):∀l:List α,(l.flatMap fun p=>[g p,g p]).length=2*l.length
 |[]=>rfl
 |p::l=>by
  rw[List.flatMap_cons,List.length_append,two_len g l]
  simp only[List.length_cons,List.length_nil]
  omega
theorem two_get {α:Type} (g:α→α):∀(l:List α) (j:Nat),(l.flatMap fun p=>[g p,g p])[2*j]?=(l[j]?).map g∧(l.flatMap fun p=>[g p,g p])[2*j+1]?=(l[j]?).map g
 |[],j=>by simp
 |p::l,0=>by
  rw[List.flatMap_cons]
  exact⟨rfl,rfl⟩
 |p::l,j+1=>by
  have ih:=two_get g l j
  rw[List.flatMap_cons]
  exact ih
theorem allV_len:∀H:List tItem.den,(allV H).length≤2*H.length
 |[]=>Nat.le_refl _
 |j::H=>by
  have ih:=allV_len H
  rw[allV_cons,List.length_append,List.length_cons]
  cases (j.1 != (1:Int))
  ·show 1+_≤_
   omega
  ·show 2+_≤_
   omega
theorem dup_code {H:List tItem.den} (hc:CodeOk H) (hl:H.length≤1000):CodeOk (allV H):=by
 refine⟨?_,by rw[allV_labs];exact hc.nodup,by rw[allV_labs];exact hc.lab,?_,?_⟩
 ·rw[allV_labs]
  refine List.all_eq_true.2 fun j hj=>?_
  unfold allV at hj
  obtain⟨i,hi,hji⟩:=List.mem_flatMap.1 hj
  have:=List.all_eq_true.1 hc.all i hi
  have e:j=i:=by
   revert hji
   cases (i.1 != (1:Int))<;>simp
  rw[e]
  exact this
 ·rw[allV_cnt,dbl_strip,two_len]
  have:=hc.cnt
  omega
 ·have:=allV_len H
  omega
theorem case_facts {I M:Int} {l:List tStore.den} {u:Bool} (h:qcO (I,M,l,u,())=true):∃i m:Nat,I=(i:Int)∧M=(m:Int)∧i≤8∧m≤8:=by
 have h:(decide (I≥0)&&(decide (I≤8)&&(decide (M≥0)&&decide (M≤8))))=true:=h
 simp only[Bool.and_eq_true,decide_eq_true_eq] at h
 exact⟨I.toNat,M.toNat,by omega,by omega,by omega,by omega⟩
def caseS (i m:Nat):tSizes.den:=((0:Int),((4*m:Nat):Int),((4*(i+m+1):Nat):Int),())
def caseL (i m:Nat) (l:List tStore.den) (u:Bool):List tStore.den:=bothL (l.take 20)++(bif u&&decide (0<m) then[(2,(i:Int),bxor .i64 (lastF (i:Int) (l.take 20) 0) 1,())] else[])
def caseC (i m:Nat) (b tw:Bool):List tItem.den:=bif tw then allV (gateH (4*i) (4*m) (4*(i+m+1)) b) else gateH (4*i) (4*m) (4*(i+m+1)) b
theorem caseL_len (i m:Nat) (l:List tStore.den) (u:Bool):(putsI (caseS i m) (caseL i m l u)).length≤205:=by
 have a:=puts_len (caseS i m) (caseL i m l u)
 unfold caseL at a ⊢
 rw[List.length_append,bothL_len,List.length_take] at a
 have h2:(bif u&&decide (0<m) then[((2:Int),(i:Int),bxor .i64 (lastF (i:Int) (l.take 20) 0) 1,())] else[]:List tStore.den).length≤1:=by
  cases u&&decide (0<m)
  ·exact Nat.zero_le _
  ·exact Nat.le_refl _
 omega
theorem case_code (i m:Nat) (b tw:Bool):CodeOk (caseC i m b tw):=by
 unfold caseC
 cases tw
 ·exact gate_code _ _ _ b
 ·exact dup_code (gate_code _ _ _ b) (by rw[gate_len];cases b<;>decide)
theorem case_sizes (i m:Nat) (l:List tStore.den) (u:Bool) (hi:i≤8) (hm:m≤8):qN ((i:Int),(m:Int),l,u,())=caseS i m:=by
 show((0:Int),w64 (4*(m:Int)),w64 (w64 (w64 (4*(i:Int))+w64 (4*(m:Int)))+4),())=_
 rw[w64_id (n:=4*(m:Int)) (by omega) (by omega),w64_id (n:=4*(i:Int)) (by omega) (by omega),w64_id (n:=4*(i:Int)+4*(m:Int)) (by omega) (by omega),w64_id (by omega) (by omega)]
 unfold caseS
 rw[show 4*(m:Int)=((4*m:Nat):Int) by omega,show 4*(i:Int)+((4*m:Nat):Int)+4=((4*(i+m+1):Nat):Int) by omega]
theorem case_codeX (i m:Nat) (l:List tStore.den) (u b tw:Bool) (hi:i≤8) (hm:m≤8):gateX (((i:Int),(m:Int),l,u,()),b,tw)++handX (((i:Int),(m:Int),l,u,()),b,tw)=gateH (4*i) (4*m) (4*(i+m+1)) b∧codeX (((i:Int),(m:Int),l,u,()),b,tw)=caseC i m b tw:=by
 have e1:gateX (((i:Int),(m:Int),l,u,()),b,tw)=gateL false b b ((4*i:Nat):Int) ((4*m:Nat):Int) 0 20:=by
  show qhi (w64 (4*(i:Int)),(qN ((i:Int),(m:Int),l,u,())).2.1,b,0,20)=_
  rw[case_sizes i m l u hi hm,w64_id (by omega) (by omega),show 4*(i:Int)=((4*i:Nat):Int) by omega]
  rfl
 have e2:handX (((i:Int),(m:Int),l,u,()),b,tw)=handH (4*m) (4*(i+m+1)) b:=by
  show qbD (qN ((i:Int),(m:Int),l,u,()),b,0,1)=_
  rw[case_sizes i m l u hi hm]
  exact hand_V _ _ _
 have e:gateX (((i:Int),(m:Int),l,u,()),b,tw)++handX (((i:Int),(m:Int),l,u,()),b,tw)=gateH (4*i) (4*m) (4*(i+m+1)) b:=by
  rw[e1,e2]
  rfl
 refine⟨e,?_⟩
 unfold codeX caseC
 rw[e]
 rfl
theorem builtT_val (i m:Nat) (l:List tStore.den) (u b tw:Bool) (hi:i≤8) (hm:m≤8) (pre:List tIns.den) (hpre:∀j∈pre,opK j=true) (hlen:pre.length≤205) :
  (builtT (((i:Int),(m:Int),l,u,()),b,tw) (its pre)).val=some (qE (its pre++caseC i m b tw,caseS i m,0),((pre.length:Nat):Int),()):=by
 obtain⟨c1,c2⟩:=case_codeX i m l u b tw hi hm
 have hsz:=case_sizes i m l u hi hm
 obtain⟨g,_⟩:=img_part hpre (by omega) (case_code i m b tw) (4*m) (4*(i+m+1)) (by omega) (by omega) (by omega) (by omega)
 have hgl:(gateX (((i:Int),(m:Int),l,u,()),b,tw)).length+(handX (((i:Int),(m:Int),l,u,()),b,tw)).length≤177:=by
  rw[←List.length_append,c1,gate_len]
  cases b<;>decide
 have hcl:=(case_code i m b tw).len
 have hil:(its pre).length=pre.length:=by unfold its;rw[List.length_map]
 unfold builtT
 refine(val_yes ?_).trans ((val_yes ?_).trans ((val_yes ?_).trans ((val_yes ?_).trans ?_)))
 ·rw[Nat.ble_eq]
  show((gateX (((i:Int),(m:Int),l,u,()),b,tw)).length+(handX (((i:Int),(m:Int),l,u,()),b,tw)).length)*80≤_
  omega
 ·show(bif tw then qh2 (gateX _++handX _) else true)=true
  cases tw
  ·rfl
  ·rw[c1,cond_true]
   unfold qh2
   rw[gate_len]
   cases b<;>decide
 ·rw[Nat.ble_eq,c2,hil]
  omega
 ·dsimp only
  rw[c2,hsz]
  exact g
 ·dsimp only
  rw[c2,hsz]
  unfold lenI
  rw[hil]
  generalize qE (its pre++caseC i m b tw,caseS i m,0)=q
  rfl
theorem built_val (i m:Nat) (l:List tStore.den) (u b tw:Bool) (hi:i≤8) (hm:m≤8) :
  qb8 (((i:Int),(m:Int),l,u,()),b,tw)=true∧qq (((i:Int),(m:Int),l,u,()),b,tw) =
   (qE (its (putsI (caseS i m) (caseL i m l u))++caseC i m b tw,caseS i m,0),(((putsI (caseS i m) (caseL i m l u)).length:Nat):Int),()):=by
 have hsz:=case_sizes i m l u hi hm
 have hlen:=caseL_len i m l u
 have hB:=builtT_val i m l u b tw hi hm (putsI (caseS i m) (caseL i m l u)) (puts_opK _ _) hlen
 have hT:(qcb (((i:Int),(m:Int),l,u,()),b,tw)).val=some (qE (its (putsI (caseS i m) (caseL i m l u))++caseC i m b tw,caseS i m,0),(((putsI (caseS i m) (caseL i m l u)).length:Nat):Int),()):=by
  unfold qcb
  refine(val_opt (ahead_val ((i:Int),(m:Int),l,u,()) _)).trans ?_
  dsimp only
  rw[hsz]
  have hd:decide ((m:Int) > 0)=decide (0<m):=decide_eq_decide.2 (by omega)
  rw[hd]
  unfold caseL at hB hlen ⊢
  rw[←puts_its,putsL_app] at hB ⊢
  cases hu:(u&&decide (0<m))
  ·rw[hu] at hB
   refine(val_no rfl).trans ?_
   have e:putsL (caseS i m) []=[]:=rfl
   rw[cond_false,e,List.append_nil] at hB ⊢
   exact hB
  ·rw[hu] at hB
   rw[cond_true] at hB ⊢
   obtain⟨g,v⟩:=last_val (i:Int) (m:Int) l u (i:Int)
   refine(val_yes rfl).trans ((val_yes g).trans ?_)
   rw[v]
   refine(putT_val _ _ _ _ ?_).trans hB
   rw[putsL_len]
   have a:=puts_len (caseS i m) (bothL (l.take 20))
   rw[bothL_len,List.length_take] at a
   omega
 exact⟨by unfold qb8;rw[hT];rfl,by unfold qq PO.getO;rw[hT];rfl⟩
end Go.Av
end
section
namespace Go.Av
open Go
theorem bxor_one_ne (v:Int):wn (bxor .i64 v 1)≠wn v:=by
 rw[xor_wn]
 have e:wn 1=1:=rfl
 rw[e]
 intro h
 have h2:wn v ^^^ (wn v ^^^ 1)=wn v ^^^ wn v:=by rw[h]
 rw[←Nat.xor_assoc,Nat.xor_self,Nat.zero_xor] at h2
 cases h2
theorem case_run (i m:Nat) (l:List tStore.den) (u b tw:Bool) (hi:i≤8) (hm:m≤8) :
  ∃(n:Nat) (s1:IS),SzOk (4*m) (4*(i+m+1)) n ∧
   (∀t,t<m→s1.2.2 (537133056+4*(i+t))=wn (imgV i l t)) ∧
   ((u&&decide (0<m))=false→∀t,t<m→s1.2.2 (537395200+4*(i+t))=wn (imgV i l t)) ∧
   ((u&&decide (0<m))=true→s1.2.2 (537395200+4*i)≠wn (imgV i l 0)) ∧
   ∀(f:tFault.den),qr f=0→((((putsI (caseS i m) (caseL i m l u)).length:Nat):Int)≤(show Int from f.2.1)∨f=noFault)→∀B:Nat,B≤50000→(putsI (caseS i m) (caseL i m l u)).length≤B →
    ∃cy:Int,∀r,goI (localE (caseC i m b tw) (4*m) (4*(i+m+1)) n) f (B-(putsI (caseS i m) (caseL i m l u)).length) (putsI (caseS i m) (caseL i m l u)).length (false,0,s1)=r →
     qK ((qq (((i:Int),(m:Int),l,u,()),b,tw)).1,[],f,(B:Int)) =
      ((r.2.2.1,(((putsI (caseS i m) (caseL i m l u)).length+r.1:Nat):Int),cy,((r.2.1:Nat):Int),((r.2.2.2.2.2.2 537919488:Nat):Int),((r.2.2.2.2.2.2 538968064:Nat):Int),
       bytesW r.2.2.2.2.2.2 537001984 (4*m),bytesW r.2.2.2.2.2.2 537133056 (4*(i+m+1)),bytesW r.2.2.2.2.2.2 537395200 (4*(i+m+1)),()),0,()):=by
 obtain⟨_,hV⟩:=built_val i m l u b tw hi hm
 have hlen:=caseL_len i m l u
 have hcode:=case_code i m b tw
 obtain⟨_,hd,adr,k,him,hk⟩:=img_part (pre:=putsI (caseS i m) (caseL i m l u)) (H:=caseC i m b tw) (puts_opK _ _) (by omega) hcode (4*m) (4*(i+m+1)) (by omega) (by omega) (by omega) (by omega)
 have hV1:(qq (((i:Int),(m:Int),l,u,()),b,tw)).1=qE (its (putsI (caseS i m) (caseL i m l u))++caseC i m b tw,((0:Int),((4*m:Nat):Int),((4*(i+m+1):Nat):Int),()),0):=by
  rw[hV]
  rfl
 rw[hV1]
 generalize qE (its (putsI (caseS i m) (caseL i m l u))++caseC i m b tw,((0:Int),((4*m:Nat):Int),((4*(i+m+1):Nat):Int),()),0)=img at *
 have hs:SzOk (4*m) (4*(i+m+1)) img.length:=him.prg.sz
 obtain⟨ρ1,e1⟩:=puts_exec (E:=⟨prgTo (its (putsI (caseS i m) (caseL i m l u))++caseC i m b tw) (its (putsI (caseS i m) (caseL i m l u))++caseC i m b tw).length,4*m,4*(i+m+1),img.length,cntI (its (putsI (caseS i m) (caseL i m l u))++caseC i m b tw) k⟩) hs (caseL i m l u) (beginS (4*m) (4*(i+m+1)) img.length img)
 have e1:execL ⟨prgTo (its (putsI (caseS i m) (caseL i m l u))++caseC i m b tw) (its (putsI (caseS i m) (caseL i m l u))++caseC i m b tw).length,4*m,4*(i+m+1),img.length,cntI (its (putsI (caseS i m) (caseL i m l u))++caseC i m b tw) k⟩ (putsI (caseS i m) (caseL i m l u)) (beginS (4*m) (4*(i+m+1)) img.length img)=some (ρ1,(beginS (4*m) (4*(i+m+1)) img.length img).2.1,putsW (caseS i m) (caseL i m l u) (beginS (4*m) (4*(i+m+1)) img.length img).2.2):=e1
 have z0:∀b' t,(b'=537133056∨b'=537395200)→t<i+m+1→(beginS (4*m) (4*(i+m+1)) img.length img).2.2 (b'+4*t)=wn 0:=fun b' t hb ht=>by
  refine begin_zero hs (by omega) (by omega) (by omega) img rfl ?_
  rcases hb with rfl |rfl
  ·rw[(regR_a hs t (by omega)).1];rfl
  ·rw[(regR_b hs t (by omega)).1];rfl
 have zz:∀t,t<i+m+1→putsW (caseS i m) (bothL (l.take 20)) (beginS (4*m) (4*(i+m+1)) img.length img).2.2 (537133056+4*t)=wn (lastF (t:Int) (l.take 20) 0)∧putsW (caseS i m) (bothL (l.take 20)) (beginS (4*m) (4*(i+m+1)) img.length img).2.2 (537395200+4*t)=wn (lastF (t:Int) (l.take 20) 0):=fun t ht =>
  both_last (4*m) (i+m+1) (by omega) t ht (l.take 20) _ 0 (z0 _ t (.inl rfl) ht) (z0 _ t (.inr rfl) ht)
 generalize hW0:putsW (caseS i m) (bothL (l.take 20)) (beginS (4*m) (4*(i+m+1)) img.length img).2.2=W0 at zz
 have hW:putsW (caseS i m) (caseL i m l u) (beginS (4*m) (4*(i+m+1)) img.length img).2.2=putsW (caseS i m) (bif u&&decide (0<m) then[(2,(i:Int),bxor .i64 (lastF (i:Int) (l.take 20) 0) 1,())] else[]) W0:=by
  rw[←hW0]
  exact putsW_app _ _ _ _
 rw[hW] at e1
 refine⟨img.length,(ρ1,(beginS (4*m) (4*(i+m+1)) img.length img).2.1,putsW (caseS i m) (bif u&&decide (0<m) then[(2,(i:Int),bxor .i64 (lastF (i:Int) (l.take 20) 0) 1,())] else[]) W0),hs,fun t ht=>?_,fun hu t ht=>?_,fun hu=>?_,fun f hf hfs B hB hpB=>?_⟩
 ·show putsW _ _ W0 _=_
  unfold imgV
  have h1:=(zz (i+t) (by omega)).1
  cases hu:(u&&decide (0<m))
  ·exact h1
  ·rw[←h1]
   exact put_far 2 (i:Int) (bxor .i64 (lastF (i:Int) (l.take 20) 0) 1) (4*m) (i+m+1) (.inr rfl) (by omega) W0 (i+t) 537133056 (.inl ⟨rfl,rfl⟩) (by omega)
 ·show putsW _ _ W0 _=_
  unfold imgV
  rw[hu]
  exact(zz (i+t) (by omega)).2
 ·show putsW _ _ W0 _≠_
  unfold imgV
  rw[hu,cond_true]
  have hp:=put_get 2 (i:Int) (bxor .i64 (lastF (i:Int) (l.take 20) 0) 1) (4*m) (i+m+1) (.inr rfl) (by omega) W0 i 537395200 (.inr ⟨rfl,rfl⟩) (by omega)
  rw[beq_self_eq_true,cond_true] at hp
  have hp:putsW (caseS i m) [(2,(i:Int),bxor .i64 (lastF (i:Int) (l.take 20) 0) 1,())] W0 (537395200+4*i)=_:=hp
  rw[hp]
  exact bxor_one_ne _
 ·obtain⟨cy,hrun⟩:=run_behind (puts_opK (caseS i m) (caseL i m l u)) (by omega) hcode (by omega) (by omega) (by omega) him hk e1 f hf hfs (B-(putsI (caseS i m) (caseL i m l u)).length) (by omega)
  rw[show(putsI (caseS i m) (caseL i m l u)).length+(B-(putsI (caseS i m) (caseL i m l u)).length)=B by omega] at hrun
  refine⟨cy,fun r hr=>?_⟩
  rw[hr] at hrun
  exact hrun
theorem out_image (i m:Nat) (l:List tStore.den) (u:Bool) (hi:i≤8) (hm:m≤8) (W:Nat→Nat) (h:∀t,t<m→W (537001984+4*t)=wn (imgV i l t)):bytesW W 537001984 (4*m)=q9 ((i:Int),(m:Int),l,u,()):=by
 rw[(image_val i m l u hi hm).2]
 unfold bytesW
 rw[show 4*m / 4=m by omega]
 refine flat_congr fun t ht=>?_
 have ht:=List.mem_range.1 ht
 rw[h t ht]
 have:=last_in ((i+t:Nat):Int) (l.take 20) 0 (by omega)
 have e:((wn (imgV i l t):Nat):Int)=imgV i l t:=by
  rw[wn_int]
  unfold imgV
  omega
 rw[e]
end Go.Av
end
section
namespace Go.Av
open Go
theorem gate_comes (i m n:Nat) (l:List tStore.den) (u b:Bool) (hs:SzOk (4*m) (4*(i+m+1)) n) (hi:i≤8) (hm:m≤8) (s1:IS)
  (hA:∀t,t<m→s1.2.2 (537133056+4*(i+t))=wn (imgV i l t))
  (hB:(u&&decide (0<m))=false→∀t,t<m→s1.2.2 (537395200+4*(i+t))=wn (imgV i l t))
  (hU:(u&&decide (0<m))=true→s1.2.2 (537395200+4*i)≠wn (imgV i l 0)) :
  ((b&&(u&&decide (0<m)))=false→∃k j' s',k≤3000∧Ends (gateE (4*i) (4*m) (4*(i+m+1)) n b) k 0 0 s1 j' s'∧s'.2.2 537919488=3235799053∧∀t,t<m→s'.2.2 (537001984+4*t)=wn (imgV i l t)) ∧
  ((b&&(u&&decide (0<m)))=true→∃k j' s',k≤3000∧Ends (gateE (4*i) (4*m) (4*(i+m+1)) n b) k 1 0 s1 j' s'∧Wp m (i+m+1) s'.2.2∧s'.2.2 538968064=195890093):=by
 have hI:i+m≤i+m+1:=by omega
 have H:=gate_hand (4*i) m (i+m+1) n b hs
 have Q:=gate_q (4*i) (4*m) (4*(i+m+1)) n b
 have ho:=hs.out
 have hr:=hs.rail
 obtain⟨s2,g2,z2,k2⟩:=g_copy (b:=b) hs hI s1
 have hO:∀t,t<m→s2.2.2 (537001984+4*t)=wn (imgV i l t):=fun t ht=>by rw[z2 t ht,hA t ht]
 have hA2:∀t,t<m→s2.2.2 (537133056+4*(i+t))=wn (imgV i l t):=fun t ht=>by rw[k2 _ (fun t' _=>by omega),hA t ht]
 have hB2:∀t,s2.2.2 (537395200+4*(i+t))=s1.2.2 (537395200+4*(i+t)):=fun t=>k2 _ (fun t' _=>by omega)
 have fin:∀(k q:Nat) (s3:IS),QEnd (gateE (4*i) (4*m) (4*(i+m+1)) n b) q→GoTo (gateE (4*i) (4*m) (4*(i+m+1)) n b) k 0 19 s2 q s3→k≤1000→s3.2.2=s2.2.2→∃k j' s',k≤3000∧Ends (gateE (4*i) (4*m) (4*(i+m+1)) n b) k 0 0 s1 j' s'∧s'.2.2 537919488=3235799053∧∀t,t<m→s'.2.2 (537001984+4*t)=wn (imgV i l t):=fun k q s3 Q g hk hw=>by
  obtain⟨s4,g4,w4⟩:=q_run Q (h_commit H).1 s3
  refine⟨_,_,s4,?_,(g2.trans g).ends g4,by rw[w4,updW_same],fun t ht=>?_⟩
  ·show 18*m+5+k+6≤3000
   omega
  ·rw[w4,updW_other _ _ (by omega),hw]
   exact hO t ht
 cases b
 ·exact⟨fun _=>fin 0 19 s2 Q (GoTo.refl _ _ _) (by omega) rfl,fun h=>by cases h⟩
 ·obtain⟨a1,a2⟩:=g_look hs hI s2
  constructor
  ·intro hu
   have hu:(u&&decide (0<m))=false:=hu
   obtain⟨s3,g3,w3⟩:=a1 (fun t ht=>by rw[hO t ht,hA2 t ht,hB2 t,hB hu t ht];exact⟨rfl,rfl⟩)
   exact fin _ 46 s3 Q g3 (by omega) w3
  ·intro hu
   have hu:(u&&decide (0<m))=true:=hu
   have hm0:0<m:=by
    rw[Bool.and_eq_true,decide_eq_true_eq] at hu
    exact hu.2
   obtain⟨k,s3,hk,g3,_⟩:=a2 ⟨0,hm0,fun he=>hU hu (by
    have h2:=he.2
    rw[hO 0 hm0,hB2 0] at h2
    exact h2.symm)⟩
   have e53:(53:Nat)=(gateE (4*i) (4*m) (4*(i+m+1)) n true).h:=(gate_h (4*i) (4*m) (4*(i+m+1)) n true).symm
   rw[e53] at g3
   obtain⟨s4,g4,w4,t4⟩:=h_run H s3
   have g:=(g2.trans g3).ends g4
   refine⟨_,_,s4,?_,g,w4,t4⟩
   unfold hSteps
   omega
end Go.Av
end
section
namespace Go.Av
open Go
def twI (i:tIns.den):Bool :=
 bif i.1==2 then true else bif i.1==3 then true else bif i.1==4 then true else bif i.1==5 then i.2.1 != i.2.2.2.1
 else bif i.1==14 then i.2.1 != i.2.2.1&&i.2.1 != i.2.2.2.1 else bif i.1==18 then i.2.1 != i.2.2.1&&(i.2.2.2.2.1==16&&i.2.2.2.2.2.1==0)
 else bif i.1==19 then i.2.1 != i.2.2.1 else i.1==20||i.1==23
theorem updR_two (ρ:Int→Nat) (k:Int) (v:Nat):updR (updR ρ k v) k v=updR ρ k v:=by
 funext j
 unfold updR
 cases (j==k)<;>rfl
theorem updW_two (W:Nat→Nat) (a v:Nat):updW (updW W a v) a v=updW W a v:=by
 funext b
 unfold updW
 cases (b==a)<;>rfl
theorem movt_val (d:Nat) (imm:Int):wn ((insN (wn ((d:Nat):Int)) (wn imm) 16 16:Nat):Int)=wn imm % 65536*65536+wn ((d:Nat):Int) % 65536:=by
 have hd:=wn_lt ((d:Nat):Int)
 generalize wn ((d:Nat):Int)=x at *
 have h1:wn imm % 65536<65536:=Nat.mod_lt _ (by omega)
 have h2:x % 65536<65536:=Nat.mod_lt _ (by omega)
 have h3:wn imm % 65536*65536+x % 65536<4294967296:=by
  generalize wn imm % 65536=y at *
  generalize x % 65536=z at *
  omega
 have e:insN x (wn imm) 16 16=wn imm % 65536*65536+x % 65536:=by
  rw[insN_16,Nat.div_eq_of_lt hd,Nat.zero_mul,Nat.add_zero]
 rw[e,wn_cast _ h3]
theorem bfi_val (d n:Nat):wn ((insN (wn ((d:Nat):Int)) (wn ((n:Nat):Int)) 0 16:Nat):Int)=wn ((d:Nat):Int) / 65536*65536+wn ((n:Nat):Int) % 65536:=by
 have hd:=wn_lt ((d:Nat):Int)
 generalize wn ((d:Nat):Int)=x at *
 generalize wn ((n:Nat):Int)=y at *
 rw[insN_0,wn_cast]
 omega
theorem stepR_two (ρ:Int→Nat) (op rd rn rm ra imm cond:Int) (w:Bool) (u:Unit) (h17:(op==(17:Int))=false)
  (h:wn (vOf op imm ra ((updR ρ rd (wn (vOf op imm ra (ρ rd) (ρ rn) (ρ rm) 0))) rd) ((updR ρ rd (wn (vOf op imm ra (ρ rd) (ρ rn) (ρ rm) 0))) rn) ((updR ρ rd (wn (vOf op imm ra (ρ rd) (ρ rn) (ρ rm) 0))) rm) 0)=wn (vOf op imm ra (ρ rd) (ρ rn) (ρ rm) 0)) :
  stepR (stepR ρ (op,rd,rn,rm,ra,imm,cond,w,u)) (op,rd,rn,rm,ra,imm,cond,w,u)=stepR ρ (op,rd,rn,rm,ra,imm,cond,w,u):=by
 have e:∀ρ:Int→Nat,stepR ρ (op,rd,rn,rm,ra,imm,cond,w,u)=updR ρ rd (wn (vOf op imm ra (ρ rd) (ρ rn) (ρ rm) 0)):=fun ρ=>by
  show(bif op==17 then _ else _)=_
  rw[h17]
  rfl
 rw[e,e,h,updR_two]
theorem ex_twice (E:Env) (i:tIns.den) (h:twI i=true) (h2:(i.1==(2:Int))=false) (s s':IS) (e:exec1 E i s=some s'):exec1 E i s'=some s':=by
 obtain⟨op,rd,rn,rm,ra,imm,cond,w,u⟩:=i
 have hR:∀(hop:(op==(2:Int))=false∧(op==(19:Int))=false∧(op==(20:Int))=false∧(op==(23:Int))=false),stepR (stepR s.1 (op,rd,rn,rm,ra,imm,cond,w,u)) (op,rd,rn,rm,ra,imm,cond,w,u)=stepR s.1 (op,rd,rn,rm,ra,imm,cond,w,u)→exec1 E (op,rd,rn,rm,ra,imm,cond,w,u) s'=some s':=fun⟨a,b,c,d⟩ hs=>by
  have e1:∀s:IS,exec1 E (op,rd,rn,rm,ra,imm,cond,w,u) s=some (stepR s.1 (op,rd,rn,rm,ra,imm,cond,w,u),s.2):=fun s=>by
   show(bif op==2 then none else bif op==19 then _ else bif op==20 then _ else bif op==23 then _ else _)=_
   rw[a,b,c,d]
   rfl
  rw[e1] at e
  cases e
  rw[e1]
  exact congrArg (fun q=>some ((q,s.2):IS)) hs
 unfold twI at h
 dsimp only at h h2
 rw[h2,cond_false] at h
 by_cases o3:op=3
 ·subst o3
  exact hR ⟨rfl,rfl,rfl,rfl⟩ (stepR_two _ _ _ _ _ _ _ _ _ _ rfl rfl)
 rw[beq_eq_false_iff_ne.2 o3,cond_false] at h
 by_cases o4:op=4
 ·subst o4
  refine hR ⟨rfl,rfl,rfl,rfl⟩ (stepR_two _ _ _ _ _ _ _ _ _ _ rfl ?_)
  rw[updR_same]
  show wn ((insN (wn ((_:Nat):Int)) (wn imm) 16 16:Nat):Int)=wn ((insN (wn ((_:Nat):Int)) (wn imm) 16 16:Nat):Int)
  rw[movt_val,movt_val]
  have hv:∀d:Nat,wn (vOf 4 imm ra (d:Int) (s.1 rn) (s.1 rm) 0)=wn imm % 65536*65536+wn ((d:Nat):Int) % 65536:=fun d=>movt_val d imm
  rw[hv]
  generalize wn ((s.1 rd:Nat):Int)=x
  rw[wn_cast _ (by
   have h1:wn imm % 65536<65536:=Nat.mod_lt _ (by omega)
   generalize wn imm % 65536=y at *
   omega)]
  omega
 rw[beq_eq_false_iff_ne.2 o4,cond_false] at h
 by_cases o5:op=5
 ·subst o5
  have h:(rd != rm)=true:=h
  have hne:rm≠rd:=fun q=>by rw[q] at h;simp at h
  refine hR ⟨rfl,rfl,rfl,rfl⟩ (stepR_two _ _ _ _ _ _ _ _ _ _ rfl ?_)
  rw[updR_other s.1 _ hne]
  rfl
 rw[beq_eq_false_iff_ne.2 o5,cond_false] at h
 by_cases o14:op=14
 ·subst o14
  have h:(rd != rn&&rd != rm)=true:=h
  rw[Bool.and_eq_true] at h
  have hn:rn≠rd:=fun q=>by rw[q] at h;simp at h
  have hm:rm≠rd:=fun q=>by rw[q] at h;simp at h
  refine hR ⟨rfl,rfl,rfl,rfl⟩ (stepR_two _ _ _ _ _ _ _ _ _ _ rfl ?_)
  rw[updR_other s.1 _ hn,updR_other s.1 _ hm]
  rfl
 rw[beq_eq_false_iff_ne.2 o14,cond_false] at h
 by_cases o18:op=18
 ·subst o18
  have h:(rd != rn&&(ra==16&&imm==0))=true:=h
  rw[Bool.and_eq_true,Bool.and_eq_true,beq_iff_eq,beq_iff_eq] at h
  obtain⟨h,rfl,rfl⟩:=h
  have hn:rn≠rd:=fun q=>by rw[q] at h;simp at h
  refine hR ⟨rfl,rfl,rfl,rfl⟩ (stepR_two _ _ _ _ _ _ _ _ _ _ rfl ?_)
  rw[updR_same,updR_other s.1 _ hn]
  have hv:∀(d n:Nat) (m:Int),wn (vOf 18 0 16 (d:Int) (n:Int) m 0)=wn ((d:Nat):Int) / 65536*65536+wn ((n:Nat):Int) % 65536:=fun d n _=>bfi_val d n
  rw[hv,hv]
  have hd:=wn_lt ((s.1 rd:Nat):Int)
  generalize wn ((s.1 rd:Nat):Int)=x at *
  generalize wn ((s.1 rn:Nat):Int)=y at *
  rw[wn_cast _ (by omega)]
  omega
 rw[beq_eq_false_iff_ne.2 o18,cond_false] at h
 by_cases o19:op=19
 ·subst o19
  have h:(rd != rn)=true:=h
  have hn:rn≠rd:=fun q=>by rw[q] at h;simp at h
  have e1:∀s:IS,exec1 E (19,rd,rn,rm,ra,imm,cond,w,u) s=(bif E.okR (s.1 rn) then some (updR s.1 rd (s.2.2 (s.1 rn)),s.2) else none):=fun s=>rfl
  rw[e1] at e
  cases ho:E.okR (s.1 rn)
  ·rw[ho] at e;cases e
  ·rw[ho,cond_true] at e
   cases e
   rw[e1]
   show(bif E.okR ((updR s.1 rd (s.2.2 (s.1 rn))) rn) then some (updR (updR s.1 rd (s.2.2 (s.1 rn))) rd (s.2.2 ((updR s.1 rd (s.2.2 (s.1 rn))) rn)),s.2) else none)=_
   rw[updR_other s.1 _ hn,ho,updR_two]
   rfl
 rw[beq_eq_false_iff_ne.2 o19,cond_false] at h
 by_cases o20:op=20
 ·subst o20
  have e1:∀s:IS,exec1 E (20,rd,rn,rm,ra,imm,cond,w,u) s=(bif E.okW (s.1 rn) then some (s.1,s.2.1,updW s.2.2 (s.1 rn) (s.1 rd)) else none):=fun s=>rfl
  rw[e1] at e
  cases ho:E.okW (s.1 rn)
  ·rw[ho] at e;cases e
  ·rw[ho,cond_true] at e
   cases e
   rw[e1]
   show(bif E.okW (s.1 rn) then some (s.1,s.2.1,updW (updW s.2.2 (s.1 rn) (s.1 rd)) (s.1 rn) (s.1 rd)) else none)=_
   rw[ho,updW_two]
   rfl
 ·have o23:op=23:=by
   rw[beq_eq_false_iff_ne.2 o20,Bool.false_or,beq_iff_eq] at h
   exact h
  subst o23
  have e1:∀s:IS,exec1 E (23,rd,rn,rm,ra,imm,cond,w,u) s=some (s.1,cmpF (s.1 rn) (s.1 rm),s.2.2):=fun s=>rfl
  rw[e1] at e
  cases e
  rw[e1]
theorem exec1_none {E:Env} {i:tIns.den} {s:IS} (h2:(i.1==(2:Int))=false) (h:exec1 E i s=none) (j:Nat):doI E j i s=(false,E.h,s):=by
 unfold exec1 at h
 unfold doI
 rw[h2,cond_false] at h ⊢
 cases h19:(i.1==(19:Int))
 ·rw[h19,cond_false] at h
  cases h20:(i.1==(20:Int))
  ·rw[h20,cond_false] at h
   cases h23:(i.1==(23:Int))
   ·rw[h23] at h;cases h
   ·rw[h23] at h;cases h
  ·rw[h20,cond_true] at h
   cases ho:E.okW (s.1 i.2.2.1)
   ·rfl
   ·rw[ho] at h;cases h
 ·rw[h19,cond_true] at h
  cases ho:E.okR (s.1 i.2.2.1)
  ·rfl
  ·rw[ho] at h;cases h
structure Dbl (E E2:Env):Prop where
 p0:∀j:Nat,E2.P[2*j]?=(E.P[j]?).map dblP
 p1:∀j:Nat,E2.P[2*j+1]?=(E.P[j]?).map dblP
 o:E2.o=E.o
 r:E2.r=E.r
 n:E2.n=E.n
 h:E2.h=2*E.h
 safe:∀(j:Nat) (i:tIns.den),E.P[j]?=some (PI.op i)→twI i=true
section
variable {E E2:Env} (D:Dbl E E2)
include D
theorem dbl_ex (i:tIns.den) (s:IS):exec1 E2 i s=exec1 E i s:=by
 have hR:∀a,E2.okR a=E.okR a:=fun a=>by unfold Env.okR;rw[D.o,D.r,D.n]
 have hW:∀a,E2.okW a=E.okW a:=fun a=>by unfold Env.okW;rw[D.o,D.r]
 unfold exec1
 rw[hR,hW]
theorem dbl_step {j j1:Nat} {s s1:IS} (h:stepI E false j s=(false,j1,s1)) :
  (stepI E2 false (2*j) s=(false,2*j1,s1)∨(stepI E2 false (2*j) s=(false,2*j+1,s1)∧stepI E2 false (2*j+1) s1=(false,2*j1,s1)∧stepI E2 true (2*j+1) s1=(false,2*j1,s1))) ∧
  (stepI E2 true (2*j) s=(false,2*j1,s1)∨(stepI E2 true (2*j) s=(false,2*j+1,s)∧stepI E2 false (2*j+1) s=(false,2*j1,s1))):=by
 cases hp:E.P[j]? with
 |none =>
  have q:=D.p0 j
  rw[hp] at q
  have e:∀sk,stepI E2 sk (2*j) s=(false,E2.h,s):=fun sk=>by
   unfold stepI
   rw[q]
   rfl
  have e':stepI E false j s=(false,E.h,s):=by
   unfold stepI
   rw[hp]
  rw[e'] at h
  cases h
  rw[e,e,D.h]
  exact⟨.inl rfl,.inl rfl⟩
 |some p =>
  have q0:=D.p0 j
  have q1:=D.p1 j
  rw[hp] at q0 q1
  cases p with
  |op i =>
   have q0:E2.P[2*j]?=some (.op i):=q0
   have q1:E2.P[2*j+1]?=some (.op i):=q1
   rw[step_op hp] at h
   have h2:(i.1==(2:Int))=false:=by
    cases h2:(i.1==(2:Int))
    ·rfl
    ·unfold doI at h
     rw[h2] at h
     cases h
   rw[step_op q0,step_op q1,step_op q1,step_skip q0,step_skip q1]
   cases he:exec1 E i s with
   |none =>
    rw[exec1_none h2 he] at h
    cases h
    have he2:exec1 E2 i s=none:=by rw[dbl_ex D];exact he
    rw[exec1_none h2 he2,exec1_none h2 he2,D.h]
    exact⟨.inl rfl,.inr ⟨rfl,rfl⟩⟩
   |some s2 =>
    rw[exec1_do he] at h
    cases h
    have he2:exec1 E2 i s=some s1:=by rw[dbl_ex D];exact he
    have he3:exec1 E2 i s1=some s1:=by rw[dbl_ex D];exact ex_twice E i (D.safe j i hp) h2 s s1 he
    rw[exec1_do he2,exec1_do he2,exec1_do he3]
    exact⟨.inr ⟨rfl,rfl,rfl⟩,.inr ⟨rfl,rfl⟩⟩
  |br o c t =>
   have q0:E2.P[2*j]?=some (.br o c (2*t)):=q0
   have q1:E2.P[2*j+1]?=some (.br o c (2*t)):=q1
   rw[step_br hp] at h
   cases hg:goesF s.2.1 o c
   ·rw[hg,cond_false] at h
    cases h
    rw[step_br q0,step_br q1,step_skip q0,step_skip q1,hg]
    exact⟨.inr ⟨rfl,rfl,rfl⟩,.inr ⟨rfl,rfl⟩⟩
   ·rw[hg,cond_true] at h
    cases h
    rw[step_br q0,step_br q1,step_skip q0,hg]
    exact⟨.inl rfl,.inr ⟨rfl,rfl⟩⟩
theorem dbl_end {j j1:Nat} {s s1:IS} (h:stepI E false j s=(true,j1,s1)):s1=s∧stepI E2 false (2*j) s=(true,2*j,s)∧stepI E2 true (2*j) s=(false,2*j+1,s)∧stepI E2 false (2*j+1) s=(true,2*j+1,s):=by
 cases hp:E.P[j]? with
 |none =>
  unfold stepI at h
  rw[hp] at h
  cases h
 |some p =>
  have q0:=D.p0 j
  have q1:=D.p1 j
  rw[hp] at q0 q1
  cases p with
  |op i =>
   have q0:E2.P[2*j]?=some (.op i):=q0
   have q1:E2.P[2*j+1]?=some (.op i):=q1
   rw[step_op hp] at h
   have h2:(i.1==(2:Int))=true:=by
    cases h2:(i.1==(2:Int))
    ·cases he:exec1 E i s with
     |none=>rw[exec1_none h2 he] at h;cases h
     |some s2=>rw[exec1_do he] at h;cases h
    ·rfl
   have e:∀(E:Env) (j:Nat) (s:IS),doI E j i s=(true,j,s):=fun E j s=>by
    unfold doI
    rw[h2]
    rfl
   rw[e] at h
   cases h
   rw[step_op q0,step_op q1,step_skip q0,e,e]
   exact⟨rfl,rfl,rfl,rfl⟩
  |br o c t =>
   rw[step_br hp] at h
   cases hg:goesF s.2.1 o c
   ·rw[hg] at h;cases h
   ·rw[hg] at h;cases h
omit D in
theorem goN_one {E:Env} {b:Bool} {j j1:Nat} {s s1:IS} (h:stepI E false j s=(b,j1,s1)):∃c,goN E 1 (false,j,s)=(1,c,b,j1,s1):=by
 refine⟨bif j==E.h then 1 else 0,?_⟩
 show((goN E 0 (stepI E false j s)).1+1,(bif j==E.h then 1 else 0)+(goN E 0 (stepI E false j s)).2.1,(goN E 0 (stepI E false j s)).2.2)=_
 rw[h]
 rfl
omit D in
theorem goN_then {E:Env} {k c k' c':Nat} {q r r':IO3} (h:goN E k q=(k,c,r)) (h':goN E k' r=(k',c',r')):goN E (k+k') q=(k+k',c+c',r'):=by
 rw[goN_add,h,h']
omit D in
theorem ends_split {E:Env} {k c j j':Nat} {s s':IS} (h:Ends E (k+1) c j s j' s'):(stepI E false j s=(true,j',s')∧k=0)∨∃j1 s1 c1,stepI E false j s=(false,j1,s1)∧Ends E k c1 j1 s1 j' s':=by
 unfold Ends at h
 rw[goN] at h
 simp only[cond_false,Prod.mk.injEq] at h
 obtain⟨h1,h2,h3⟩:=h
 generalize hq:stepI E false j s=q at *
 obtain⟨b,j1,s1⟩:=q
 cases b with
 |true =>
  rw[goN_done E k rfl] at h1 h3
  left
  refine⟨h3,?_⟩
  have h1:0+1=k+1:=h1
  omega
 |false =>
  right
  refine⟨j1,s1,(goN E k (false,j1,s1)).2.1,rfl,?_⟩
  unfold Ends
  have e1:(goN E k (false,j1,s1)).1=k:=by omega
  rw[←h3]
  exact Prod.ext e1 rfl
theorem dbl_run:∀(k c j j':Nat) (s s':IS),Ends E k c j s j' s'→∃k2 c2 jj,k2≤2*k∧goN E2 k2 (false,2*j,s)=(k2,c2,true,jj,s')
 |0,c,j,j',s,s',h=>by
  have h:((0,0,false,j,s):Nat×Nat×IO3)=(0,c,true,j',s'):=h
  cases h
 |k+1,c,j,j',s,s',h=>by
  rcases ends_split h with⟨e,_⟩ |⟨j1,s1,c1,e,g⟩
  ·obtain⟨rfl,e1,_,_⟩:=dbl_end D e
   obtain⟨c2,g2⟩:=goN_one e1
   exact⟨1,c2,_,by omega,g2⟩
  ·obtain⟨k2,c2,jj,h1,h2⟩:=dbl_run k c1 j1 j' s1 s' g
   rcases(dbl_step D e).1 with e1 |⟨e1,e2,_⟩
   ·obtain⟨c3,g3⟩:=goN_one e1
    exact⟨1+k2,_,jj,by omega,goN_then g3 h2⟩
   ·obtain⟨c3,g3⟩:=goN_one e1
    obtain⟨c4,g4⟩:=goN_one e2
    exact⟨1+1+k2,_,jj,by omega,goN_then (goN_then g3 g4) h2⟩
theorem dbl_skip:∀(k c j j':Nat) (s s':IS),Ends E k c j s j' s'→∀T:Nat,
  (∃k2 c2 jj,k2≤T∧k2≤2*k∧goN E2 k2 (false,2*j,s)=(k2,c2,true,jj,s')) ∨
  (T<2*k∧∃c2 p st,goN E2 T (false,2*j,s)=(T,c2,false,p,st)∧∃k3 c3 jj,k3≤2*k∧goN E2 k3 (stepI E2 true p st)=(k3,c3,true,jj,s'))
 |0,c,j,j',s,s',h,T=>by
  have h:((0,0,false,j,s):Nat×Nat×IO3)=(0,c,true,j',s'):=h
  cases h
 |k+1,c,j,j',s,s',h,T=>by
  rcases ends_split h with⟨e,_⟩ |⟨j1,s1,c1,e,g⟩
  ·obtain⟨rfl,e1,e2,e3⟩:=dbl_end D e
   cases T with
   |zero =>
    right
    obtain⟨c3,g3⟩:=goN_one e3
    exact⟨by omega,0,2*j,s',rfl,1,c3,_,by omega,by rw[e2];exact g3⟩
   |succ T =>
    left
    obtain⟨c2,g2⟩:=goN_one e1
    exact⟨1,c2,_,by omega,by omega,g2⟩
  ·have ih:=dbl_skip k c1 j1 j' s1 s' g
   obtain⟨k2,c2,jj,h1,h2⟩:=dbl_run D k c1 j1 j' s1 s' g
   obtain⟨a,b⟩:=dbl_step D e
   cases T with
   |zero =>
    right
    refine⟨by omega,0,2*j,s,rfl,?_⟩
    rcases b with b |⟨b1,b2⟩
    ·exact⟨k2,c2,jj,by omega,by rw[b];exact h2⟩
    ·obtain⟨c3,g3⟩:=goN_one b2
     exact⟨1+k2,_,jj,by omega,by rw[b1];exact goN_then g3 h2⟩
   |succ T =>
    rcases a with a |⟨a1,a2,a3⟩
    ·obtain⟨c3,g3⟩:=goN_one a
     rcases ih T with⟨k4,c4,j4,x1,x2,x3⟩ |⟨x0,c4,p,st,x1,k5,c5,j5,x2,x3⟩
     ·exact .inl ⟨1+k4,_,j4,by omega,by omega,goN_then g3 x3⟩
     ·refine .inr ⟨by omega,c3+c4,p,st,?_,k5,c5,j5,by omega,x3⟩
      rw[Nat.add_comm T 1]
      exact goN_then g3 x1
    ·obtain⟨c3,g3⟩:=goN_one a1
     cases T with
     |zero=>exact .inr ⟨by omega,c3,2*j+1,s1,g3,k2,c2,jj,by omega,by rw[a3];exact h2⟩
     |succ T =>
      obtain⟨c6,g6⟩:=goN_one a2
      have g7:=goN_then g3 g6
      rcases ih T with⟨k4,c4,j4,x1,x2,x3⟩ |⟨x0,c4,p,st,x1,k5,c5,j5,x2,x3⟩
      ·exact .inl ⟨1+1+k4,_,j4,by omega,by omega,goN_then g7 x3⟩
      ·refine .inr ⟨by omega,c3+c6+c4,p,st,?_,k5,c5,j5,by omega,x3⟩
       rw[show T+1+1=1+1+T by omega]
       exact goN_then g7 x1
end
end Go.Av
end
section
namespace Go.Av
open Go
theorem gate_tw (i o r n:Nat):(gateE i o r n false).P.all (fun p=>match p with| .op i=>twI i | .br _ _ _=>true)=true:=by kernel_rfl
theorem dbl_local (H:List tItem.den) (o r n:Nat):(localE (allV H) o r n).P=(localE H o r n).P.flatMap (fun p=>[dblP p,dblP p])∧(localE (allV H) o r n).h=2*(localE H o r n).h:=⟨dbl_strip H,allV_cnt 0 H⟩
theorem dbl_env (H:List tItem.den) (o r n:Nat) (h:(localE H o r n).P.all (fun p=>match p with| .op i=>twI i | .br _ _ _=>true)=true):Dbl (localE H o r n) (localE (allV H) o r n):=by
 obtain⟨hP,hh⟩:=dbl_local H o r n
 refine⟨fun j=>?_,fun j=>?_,rfl,rfl,rfl,hh,fun j q hj=>?_⟩
 ·rw[hP]
  exact(two_get dblP _ j).1
 ·rw[hP]
  exact(two_get dblP _ j).2
 ·have:=List.all_eq_true.1 h (.op q) (List.mem_of_getElem? hj)
  exact this
theorem gate_dbl (i m n:Nat):Dbl (gateE (4*i) (4*m) (4*(i+m+1)) n false) (localE (caseC i m false true) (4*m) (4*(i+m+1)) n):=by
 have hC:caseC i m false true=allV (gateH (4*i) (4*m) (4*(i+m+1)) false):=rfl
 rw[hC]
 exact dbl_env (gateH (4*i) (4*m) (4*(i+m+1)) false) (4*m) (4*(i+m+1)) n (gate_tw _ _ _ _)
theorem skip_check (at_:Int) (h:0≤at_):qr (1,at_,0,0,())=0:=by
 unfold qr PO.getO
 have hT:(qc8 (1,at_,0,0,())).val=some 0:=by
  unfold qc8
  refine(val_no ?_).trans rfl
  show(!decide (at_≥0))=false
  rw[dec_true (show at_≥0 from h)]
  rfl
 rw[hT]
 rfl
theorem hit_sk1 (at_:Int) (s:IS):hitI (1,at_,0,0,()) s=s:=hit_sk _ s rfl
theorem skip_run {E E2:Env} (D:Dbl E E2) {k c j':Nat} {s s':IS} (h:Ends E k c 0 s j' s') (at_ m:Nat) (hm:m≤at_) (B:Nat) (hB:4*k+2≤B):∃k3 c3 jj,goI E2 (1,(at_:Int),0,0,()) B (m:Int) (false,0,s)=(k3,c3,true,jj,s'):=by
 rcases dbl_skip D k c 0 j' s s' h (at_-m) with⟨k2,c2,jj,h1,h0,h2⟩ |⟨hT,c2,p,st,h1,k3,c3,jj,h3,h4⟩
 ·obtain⟨d,rfl⟩:∃d,B=k2+d:=⟨B-k2,by omega⟩
  have e1:=goI_split E2 (1,(at_:Int),0,0,()) d k2 (m:Int) (false,0,s) (by
   show(m:Int)+(k2:Int)≤(at_:Int)
   omega)
  have h2:goN E2 k2 (false,0,s)=_:=h2
  rw[h2] at e1
  have e2:∀k,goI E2 (1,(at_:Int),0,0,()) d k (true,jj,s')=(0,0,true,jj,s'):=fun k=>by cases d<;>rfl
  rw[e2] at e1
  exact⟨_,_,jj,e1⟩
 ·obtain⟨d,rfl⟩:∃d,B=(at_-m)+(d+1):=⟨B-(at_-m)-1,by omega⟩
  have e1:=goI_split E2 (1,(at_:Int),0,0,()) (d+1) (at_-m) (m:Int) (false,0,s) (by
   show(m:Int)+((at_-m:Nat):Int)≤(at_:Int)
   omega)
  have h1:goN E2 (at_-m) (false,0,s)=_:=h1
  rw[h1] at e1
  have e2:=goI_hit E2 (1,(at_:Int),0,0,()) d ((m:Int)+((at_-m:Nat):Int)) p st (by
   show(at_:Int)=_
   omega)
  rw[hit_sk1] at e2
  have e3:goN E2 d (stepI E2 true p st)=(k3,c3,true,jj,s'):=by
   obtain⟨d',rfl⟩:∃d',d=k3+d':=⟨d-k3,by omega⟩
   rw[goN_add,h4,goN_done _ d' rfl]
   rfl
  have e2:goI E2 (1,(at_:Int),0,0,()) (d+1) ((m:Int)+((at_-m:Nat):Int)) (false,p,st)=((goN E2 d (stepI E2 true p st)).1+1,(bif p==E2.h then 1 else 0)+(goN E2 d (stepI E2 true p st)).2.1,(goN E2 d (stepI E2 true p st)).2.2):=e2
  rw[e2,e3] at e1
  exact⟨_,_,jj,e1⟩
theorem qjK (x:dens qR) (_:fitsAll maxLen qR x):(qek x).val=some true:=by
 obtain⟨⟨I,M,l,u,z⟩,at_⟩:=x
 unfold qek
 dsimp only
 cases hm:qcO (I,M,l,u,())
 ·exact(val_yes rfl).trans rfl
 ·cases hat:decide ((show Int from at_)<0)
  ·have h0:0≤(show Int from at_):=Int.not_lt.1 (of_decide_eq_false hat)
   obtain⟨a,rfl⟩:∃a:Nat,at_=(a:Int):=Int.eq_ofNat_of_zero_le h0
   obtain⟨i,m,rfl,rfl,hi,hm8⟩:=case_facts hm
   obtain⟨hG,hV⟩:=built_val i m l u false true hi hm8
   have hlen:=caseL_len i m l u
   obtain⟨n,s1,hs,hA,hB,hU,hR⟩:=case_run i m l u false true hi hm8
   have D:=gate_dbl i m n
   obtain⟨k,j',s',hk,g,hc,hX⟩:=(gate_comes i m n l u false hs hi hm8 s1 hA hB hU).1 rfl
   obtain⟨cy,hrun⟩:=hR noFault noF_check (.inr rfl) 20000 (by omega) (by omega)
   obtain⟨k2,c2,jj,hk2,g2⟩:=dbl_run D k 0 0 j' s1 s' g
   have g2:Ends (localE (caseC i m false true) (4*m) (4*(i+m+1)) n) k2 c2 0 s1 jj s':=g2
   have hr:=hrun (k2,c2,true,jj,s') (by
    rw[goI_none]
    exact ends_more g2 (by omega))
   dsimp only at hr
   have hr:qK ((qq (((i:Int),(m:Int),l,u,()),false,true)).1,[],(0,0,0,0,()),20000)=_:=hr
   have hV2:(qq (((i:Int),(m:Int),l,u,()),false,true)).2.1=(((putsI (caseS i m) (caseL i m l u)).length:Nat):Int):=by
    rw[hV]
   have hO:=out_image i m l u hi hm8 s'.2.2 hX
   obtain⟨gI,_⟩:=image_val i m l u hi hm8
   rw[hV2]
   generalize hk0:(putsI (caseS i m) (caseL i m l u)).length=k0 at *
   refine(val_no rfl).trans ((val_yes hG).trans ?_)
   rw[hr]
   dsimp only
   rw[of_kind,hO,hc]
   refine(val_yes gI).trans ((val_no ?_).trans ?_)
   ·show(false||(false||!(q9 ((i:Int),(m:Int),l,u,())==q9 ((i:Int),(m:Int),l,u,()))))=false
    rw[beq_self_eq_true]
    rfl
   ·cases hst:decide ((a:Int)<(k0:Int))
    ·have hfs:k0≤a:=by
      have:=of_decide_eq_false hst
      omega
     have hf:=skip_check (a:Int) (by omega)
     obtain⟨cy2,hrun2⟩:=hR (1,(a:Int),0,0,()) hf (.inl (by
      show(k0:Int)≤(a:Int)
      omega)) 20000 (by omega) (by omega)
     obtain⟨k3,c3,j3,b2⟩:=skip_run D g a k0 hfs (20000-k0) (by omega)
     have hr2:=hrun2 _ b2
     dsimp only at hr2
     have hr2:qK ((qq (((i:Int),(m:Int),l,u,()),false,true)).1,[],(1,(a:Int),0,0,()),20000)=_:=hr2
     rw[hO,hc] at hr2
     refine(val_no rfl).trans ?_
     rw[hr2]
     dsimp only
     generalize q9 ((i:Int),(m:Int),l,u,())=X at *
     generalize bytesW s'.2.2 537133056 (4*(i+m+1))=Y at *
     generalize bytesW s'.2.2 537395200 (4*(i+m+1))=Z at *
     generalize ((s'.2.2 538968064:Nat):Int)=stt
     have hS:∀st1 st2 cy1 cy2 h1 h2:Int,qec ((true,st1,cy1,h1,((3235799053:Nat):Int),stt,X,Y,Z,()),(true,st2,cy2,h2,((3235799053:Nat):Int),stt,X,Y,Z,()))=true:=fun _ _ _ _ _ _=>by
      show(true&&(true&&(stt==stt&&X==X)))=true
      rw[beq_self_eq_true,beq_self_eq_true]
      rfl
     rw[hS]
     exact(val_yes rfl).trans rfl
    ·exact(val_yes rfl).trans rfl
  ·exact(val_yes (Bool.or_true _)).trans rfl
end Go.Av
end
