/- Texts of the proof, one behind the other. -/
import Derived.Test.YtealbjacocgjcaaGreatGateFaultK33
import Derived.Test.YtealbjacocgjcaaGreatGateFaultK32
section
namespace Go.Av
open Go
theorem qAt (sz:qbQ.den):∀(a b:List qbi.den) (W:Nat→Nat),qf8 sz (a++b) W=qf8 sz b (qf8 sz a W)
 |[],_,_=>rfl
 |_::a,b,_=>qAt sz a b _
theorem qzr (wh at_ w:Int) (o mr:Nat) (hwh:wh=1∨wh=2) (hmr:mr≤16384) (W:Nat→Nat) (t:Nat) (b:Nat) (hb:(b=537133056∧wh=1)∨(b=537395200∧wh=2)) (ht:t<mr) :
  (bif qdx (wh,at_,w,()) ((0:Int),(o:Int),((4*mr:Nat):Int),()) then W else qcb W (qkN (wh,at_,w,())).toNat (wn w)) (b+4*t)=bif at_==(t:Int) then wn w else W (b+4*t):=by
 have hN:qBY (wh,at_,w,()) ((0:Int),(o:Int),((4*mr:Nat):Int),())=((4*mr:Nat):Int):=by rcases hwh with rfl |rfl<;>rfl
 have hB:qH6 (wh,at_,w,())=(b:Int):=by rcases hb with⟨rfl,rfl⟩ |⟨rfl,rfl⟩<;>rfl
 have hbl:b≤537395200:=by omega
 have hd:w64 (Int.tdiv ((4*mr:Nat):Int) 4)=(mr:Int):=by
  rw[Int.tdiv_eq_ediv_of_nonneg (by omega),qu (by omega) (by omega)]
  omega
 cases hp:qdx (wh,at_,w,()) ((0:Int),(o:Int),((4*mr:Nat):Int),())
 ·unfold qdx at hp
  rw[hN,hd,Bool.or_eq_false_iff] at hp
  have h0:(0:Int)≤at_:=Int.not_lt.1 (of_decide_eq_false hp.1)
  have h1:at_<(mr:Int):=Int.not_le.1 (of_decide_eq_false hp.2)
  have hA:(qkN (wh,at_,w,())).toNat=b+4*at_.toNat:=by
   unfold qkN
   rw[hB]
   show(w64 ((b:Int)+w64 (4*at_))).toNat=_
   rw[qu (n:=4*at_) (by omega) (by omega),qu (by omega) (by omega)]
   omega
  rw[cond_false,hA]
  cases he:(at_==(t:Int))
  ·have:at_≠(t:Int):=by simpa using he
   rw[cond_false,qcR _ _ (by omega)]
  ·have:at_=(t:Int):=by simpa using he
   rw[cond_true,show b+4*t=b+4*at_.toNat by omega,qlb]
 ·unfold qdx at hp
  rw[hN,hd,Bool.or_eq_true,decide_eq_true_eq,decide_eq_true_eq] at hp
  have hp:at_<0∨at_≥(mr:Int):=hp
  have he:(at_==(t:Int))=false:=beq_eq_false_iff_ne.2 (by omega)
  rw[he]
  rfl
theorem qzJ (wh at_ w:Int) (o mr:Nat) (hwh:wh=1∨wh=2) (hmr:mr≤16384) (W:Nat→Nat) (t:Nat) (b:Nat) (hb:(b=537133056∧wh=2)∨(b=537395200∧wh=1)) (ht:t<mr) :
  (bif qdx (wh,at_,w,()) ((0:Int),(o:Int),((4*mr:Nat):Int),()) then W else qcb W (qkN (wh,at_,w,())).toNat (wn w)) (b+4*t)=W (b+4*t):=by
 have hN:qBY (wh,at_,w,()) ((0:Int),(o:Int),((4*mr:Nat):Int),())=((4*mr:Nat):Int):=by rcases hwh with rfl |rfl<;>rfl
 obtain⟨c,hB,hc⟩:∃c:Nat,qH6 (wh,at_,w,())=(c:Int)∧((b=537133056∧c=537395200)∨(b=537395200∧c=537133056)):=by
  rcases hb with⟨rfl,rfl⟩ |⟨rfl,rfl⟩
  ·exact⟨537395200,rfl,.inl ⟨rfl,rfl⟩⟩
  ·exact⟨537133056,rfl,.inr ⟨rfl,rfl⟩⟩
 have hd:w64 (Int.tdiv ((4*mr:Nat):Int) 4)=(mr:Int):=by
  rw[Int.tdiv_eq_ediv_of_nonneg (by omega),qu (by omega) (by omega)]
  omega
 cases hp:qdx (wh,at_,w,()) ((0:Int),(o:Int),((4*mr:Nat):Int),())
 ·unfold qdx at hp
  rw[hN,hd,Bool.or_eq_false_iff] at hp
  have h0:(0:Int)≤at_:=Int.not_lt.1 (of_decide_eq_false hp.1)
  have h1:at_<(mr:Int):=Int.not_le.1 (of_decide_eq_false hp.2)
  have hA:(qkN (wh,at_,w,())).toNat=c+4*at_.toNat:=by
   unfold qkN
   rw[hB]
   show(w64 ((c:Int)+w64 (4*at_))).toNat=_
   rw[qu (n:=4*at_) (by omega) (by omega),qu (by omega) (by omega)]
   omega
  rw[cond_false,hA,qcR _ _ (by omega)]
 ·rfl
def qfC (l:List qbi.den):List qbi.den:=l.flatMap fun x=>[(1,x.2),(2,x.2)]
def qfB (at_:Int) (l:List qbi.den) (w0:Int):Int:=l.foldl (fun w x=>bif x.2.1==at_ then qR .i64 x.2.2.1 4294967295 else w) w0
theorem qAn (o mr:Nat) (hmr:mr≤16384) (t:Nat) (ht:t<mr):∀(l:List qbi.den) (W:Nat→Nat) (w0:Int),W (537133056+4*t)=wn w0→W (537395200+4*t)=wn w0 →
  qf8 ((0:Int),(o:Int),((4*mr:Nat):Int),()) (qfC l) W (537133056+4*t)=wn (qfB t l w0)∧qf8 ((0:Int),(o:Int),((4*mr:Nat):Int),()) (qfC l) W (537395200+4*t)=wn (qfB t l w0)
 |[],W,w0,h1,h2=>⟨h1,h2⟩
 |(wh,at_,w,u)::l,W,w0,h1,h2=>by
  have e:qfC ((wh,at_,w,u)::l)=(1,at_,w,())::(2,at_,w,())::qfC l:=rfl
  rw[e,qf8,qf8]
  have hb:wn (qR .i64 w 4294967295)=wn w:=by rw[qHm,qvW]
  refine qAn o mr hmr t ht l _ (bif at_==(t:Int) then qR .i64 w 4294967295 else w0) ?_ ?_
  ·rw[qzJ 2 at_ w o mr (.inr rfl) hmr _ t 537133056 (.inl ⟨rfl,rfl⟩) ht,qzr 1 at_ w o mr (.inl rfl) hmr W t 537133056 (.inl ⟨rfl,rfl⟩) ht,h1]
   cases (at_==(t:Int))
   ·rfl
   ·exact hb.symm
  ·rw[qzr 2 at_ w o mr (.inr rfl) hmr _ t 537395200 (.inr ⟨rfl,rfl⟩) ht,qzJ 1 at_ w o mr (.inl rfl) hmr W t 537395200 (.inr ⟨rfl,rfl⟩) ht,h2]
   cases (at_==(t:Int))
   ·rfl
   ·exact hb.symm
theorem qzz (at_:Int):∀(l:List qbi.den) (w0:Int),0≤w0∧w0<4294967296→0≤qfB at_ l w0∧qfB at_ l w0<4294967296
 |[],_,h=>h
 |x::l,w0,h=>by
  show 0≤qfB at_ l _∧qfB at_ l _<_
  refine qzz at_ l _ ?_
  show 0≤(bif x.2.1==at_ then qR .i64 x.2.2.1 4294967295 else w0)∧(bif x.2.1==at_ then qR .i64 x.2.2.1 4294967295 else w0)<4294967296
  cases (x.2.1==at_)
  ·exact h
  ·rw[cond_true,qHm]
   have:=qga x.2.2.1
   omega
theorem qDM (I M:Int) (l:List qbi.den) (u:Bool) (at_:Int):qdF ((I,M,l,u,()),at_)=true∧qbx ((I,M,l,u,()),at_)=qfB at_ (l.take 20) 0:=by
 have hl:LoopN.res qfv (at_,(),0,0) (I,M,l,u,())=some (0,(qfB at_ (l.take 20) 0,((min l.length 20:Nat):Int),(I,M,l,u,()))):=by
  unfold LoopN.res
  refine qdJ (turn:=qfv.turn (at_,(),0,0) (I,M,l,u,())) (fun i=>(qfB at_ (l.take i) 0,(i:Int),(I,M,l,u,()))) (0,(qfB at_ (l.take 20) 0,((min l.length 20:Nat):Int),(I,M,l,u,()))) (n:=min l.length 20) (fun i hi=>?_) ?_ (min l.length 20) 0 (by omega) _ (by show min l.length 20<l.length+1;omega)
  ·have h1:i<l.length:=by omega
   have h2:i<20:=by omega
   refine(qe ?_).trans ((qe (inR h1)).trans ((qe ?_).trans ?_))
   ·dsimp only
    rw[qK (show(i:Int)<qi l by simp only[qi];omega),qK (show(i:Int)<20 by omega)]
    rfl
   ·dsimp only
    rw[inR h1]
    cases ((List.getD l (Int.toNat (i:Int)) (Ty.dflt qbi)).2.1==at_)<;>rfl
   ·have hg:List.getD l (Int.toNat (i:Int)) (Ty.dflt qbi)=l[i]:=qet l _ h1
    have ht:qfB at_ (l.take (i+1)) 0=bif l[i].2.1==at_ then qR .i64 l[i].2.2.1 4294967295 else qfB at_ (l.take i) 0:=by
     rw[List.take_succ_eq_append_getElem h1]
     unfold qfB
     rw[List.foldl_append]
     rfl
    have hw:w64 ((i:Int)+1)=((i+1:Nat):Int):=by rw[qu (by omega) (by omega)];omega
    dsimp only
    rw[hg,ht,hw]
    rfl
  ·refine(qB ?_).trans ?_
   ·dsimp only
    by_cases h:l.length≤20
    ·rw[qC (show ¬(((min l.length 20:Nat):Int)<qi l) by simp only[qi];omega)]
     rfl
    ·rw[qC (show ¬(((min l.length 20:Nat):Int)<20) by omega),Bool.and_false]
   ·have:l.take (min l.length 20)=l.take 20:=by
     rw[List.take_eq_take_iff]
     omega
    dsimp only
    rw[this]
    rfl
 have hT:(qeS ((I,M,l,u,()),at_)).val=some (qfB at_ (l.take 20) 0):=by
  unfold qeS
  exact(qcP hl).trans rfl
 exact⟨by unfold qdF;rw[hT];rfl,by unfold qbx PO.qH;rw[hT];rfl⟩
def qhn (I:Nat) (l:List qbi.den) (i:Nat):Int:=qfB ((I+i:Nat):Int) (l.take 20) 0
def qsV (I:Nat) (l:List qbi.den) (k:Nat):List Int:=(List.range k).flatMap fun i=>[IntKind.wrap .u8 (qhn I l i),IntKind.wrap .u8 (qw .i64 (qhn I l i) 8),IntKind.wrap .u8 (qw .i64 (qhn I l i) 16),IntKind.wrap .u8 (qw .i64 (qhn I l i) 24)]
theorem qAw (I:Nat) (l:List qbi.den) (k:Nat):qsV I l (k+1)=qsV I l k++[IntKind.wrap .u8 (qhn I l k),IntKind.wrap .u8 (qw .i64 (qhn I l k) 8),IntKind.wrap .u8 (qw .i64 (qhn I l k) 16),IntKind.wrap .u8 (qw .i64 (qhn I l k) 24)]:=by
 unfold qsV
 rw[List.range_succ,List.flatMap_append]
 simp
theorem qDd (I:Nat) (l:List qbi.den):∀k,(qsV I l k).length=4*k
 |0=>rfl
 |k+1=>by
  rw[qAw,List.length_append,qDd I l k]
  show 4*k+4=_
  omega
theorem qII (v:Int) (h:0≤v∧v<4294967296):[IntKind.wrap .u8 v,IntKind.wrap .u8 (qw .i64 v 8),IntKind.wrap .u8 (qw .i64 v 16),IntKind.wrap .u8 (qw .i64 v 24)].map toByte=q8 v:=by
 have e:(qL v:Int)=v:=by
  show((wn v:Nat):Int)=v
  rw[qhO]
  omega
 have e0:qw .i64 v 0=v:=by
  have:=qfL v 0 (by omega)
  have this:qw .i64 v 0=v / ((2 ^ 0:Nat):Int):=this
  rw[this]
  omega
 show _=bytesOf (shown (List.set (List.set (List.set (List.set [0,0,0,0] (Int.toNat 0) (IntKind.wrap IntKind.u8 (qw IntKind.i64 (qL v) 0))) (Int.toNat 1) (IntKind.wrap IntKind.u8 (qw IntKind.i64 (qL v) 8))) (Int.toNat 2) (IntKind.wrap IntKind.u8 (qw IntKind.i64 (qL v) 16))) (Int.toNat 3) (IntKind.wrap IntKind.u8 (qw IntKind.i64 (qL v) 24))) (0,4))
 rw[e,e0]
 rfl
theorem qAH (I M:Nat) (l:List qbi.den) (u:Bool) (hI:I≤8) (hM:M≤8):qdq ((I:Int),(M:Int),l,u,())=true∧qcA ((I:Int),(M:Int),l,u,())=(List.range M).flatMap fun i=>q8 (qhn I l i):=by
 have hl:LoopN.res qfe ((),[],0) ((I:Int),(M:Int),l,u,())=some (0,(qsV I l M,(M:Int),((I:Int),(M:Int),l,u,()))):=by
  unfold LoopN.res
  refine qdJ (turn:=qfe.turn ((),[],0) ((I:Int),(M:Int),l,u,())) (fun i=>(qsV I l i,(i:Int),((I:Int),(M:Int),l,u,()))) (0,(qsV I l M,(M:Int),((I:Int),(M:Int),l,u,()))) (n:=M) (fun i hi=>?_) ?_ M 0 (by omega) _ (by show M<Int.toNat (M:Int)+1;omega)
  ·obtain⟨g,v⟩:=qDM (I:Int) (M:Int) l u ((I:Int)+(i:Int))
   have hw:w64 ((I:Int)+(i:Int))=(I:Int)+(i:Int):=qu (by omega) (by omega)
   have hw1:w64 ((i:Int)+1)=((i+1:Nat):Int):=by rw[qu (by omega) (by omega)];omega
   have hv:qbx (((I:Int),(M:Int),l,u,()),(I:Int)+(i:Int))=qhn I l i:=by
    rw[v]
    unfold qhn
    rw[show(I:Int)+(i:Int)=((I+i:Nat):Int) by omega]
   have hlen:=qDd I l i
   refine(qe (qK (show(i:Int)<(M:Int) by omega))).trans ((qe ?_).trans ?_)
   ·dsimp only
    rw[hw]
    exact g
   ·dsimp only
    rw[hw,hv,hw1,qAw]
    refine(qe ?_).trans rfl
    rw[Nat.ble_eq]
    show(List.length (qsV I l i)+4)*1≤_
    omega
  ·exact(qB (qC (show ¬((M:Int)<(M:Int)) by omega))).trans rfl
 have hT:(qen ((I:Int),(M:Int),l,u,())).val=some ((List.range M).flatMap fun i=>q8 (qhn I l i)):=by
  unfold qen
  refine(qcP hl).trans ?_
  show some (List.map toByte (qsV I l M))=_
  unfold qsV
  rw[List.map_flatMap]
  congr 2
  funext i
  exact qII _ (qzz _ _ 0 (by omega))
 exact⟨by unfold qdq;rw[hT];rfl,by unfold qcA PO.qH;rw[hT];rfl⟩
theorem qw6 {α:Type} (base:List qk.den) (x:qbi.den) (sz:qbQ.den) (K:List qk.den→PO α) (h:base.length≤900000):(qDS base x sz K).val=(K (base++qgy sz [x])).val:=by
 have e:qgy sz [x]=bif qdx x sz then[] else qvL x:=by
  unfold qgy
  simp
 unfold qDS
 rw[e]
 cases qdx x sz
 ·refine(qB rfl).trans ?_
  exact qBu K (qvL x) base (by
   have:(qvL x).length=5:=rfl
   omega)
 ·refine(qe rfl).trans ?_
  rw[cond_true,List.append_nil]
theorem qvB (sz:qbQ.den) (a b:List qbi.den):qgy sz (a++b)=qgy sz a++qgy sz b:=by
 unfold qgy
 rw[List.flatMap_append]
theorem qvE (sz:qbQ.den) (l:List qbi.den):(qgy sz l).length=(qcz sz l).length:=by
 rw[qwP]
 unfold its
 rw[List.length_map]
theorem qvf (l:List qbi.den):(qfC l).length=2*l.length:=by
 induction l with
 |nil=>rfl
 |cons x l ih =>
  have e:qfC (x::l)=(1,x.2)::(2,x.2)::qfC l:=rfl
  rw[e]
  simp only[List.length_cons]
  omega
theorem qJn (c:qiB.den) (sz:qbQ.den):LoopN.res qdy ((),[],(),0) (c,sz)=some (0,(qgy sz (qfC (c.2.2.1.take 20)),((min c.2.2.1.length 20:Nat):Int),c,sz)):=by
 obtain⟨I,M,l,u,z⟩:=c
 show LoopN.res qdy ((),[],(),0) ((I,M,l,u,z),sz)=some (0,(qgy sz (qfC (l.take 20)),((min l.length 20:Nat):Int),(I,M,l,u,z),sz))
 unfold LoopN.res
 refine qdJ (turn:=qdy.turn ((),[],(),0) ((I,M,l,u,z),sz)) (fun i=>(qgy sz (qfC (l.take i)),(i:Int),(I,M,l,u,z),sz)) (0,(qgy sz (qfC (l.take 20)),((min l.length 20:Nat):Int),(I,M,l,u,z),sz)) (n:=min l.length 20) (fun i hi=>?_) ?_ (min l.length 20) 0 (by omega) _ (by show min l.length 20<l.length+1;omega)
 ·have h1:i<l.length:=by omega
  have h2:i<20:=by omega
  refine(qe ?_).trans ((qe (inR h1)).trans ?_)
  ·dsimp only
   rw[qK (show(i:Int)<qi l by simp only[qi];omega),qK (show(i:Int)<20 by omega)]
   rfl
  ·have hg:List.getD l (Int.toNat (i:Int)) (Ty.dflt qbi)=l[i]:=qet l _ h1
   have ht:qgy sz (qfC (l.take (i+1)))=qgy sz (qfC (l.take i))++qgy sz [(1,l[i].2)]++qgy sz [(2,l[i].2)]:=by
    rw[List.take_succ_eq_append_getElem h1]
    have e1:qfC (l.take i++[l[i]])=qfC (l.take i)++([(1,l[i].2)]++[(2,l[i].2)]):=by
     unfold qfC
     rw[List.flatMap_append]
     rfl
    rw[e1,qvB,qvB,List.append_assoc]
   have hb:(qgy sz (qfC (l.take i))).length≤200:=by
    rw[qvE]
    have a:=qr0 sz (qfC (l.take i))
    rw[qvf,List.length_take] at a
    omega
   have hb1:(qgy sz [(1,l[i].2)]).length≤5:=by
    rw[qvE]
    exact qr0 sz [(1,l[i].2)]
   have hw:w64 ((i:Int)+1)=((i+1:Nat):Int):=by rw[qu (by omega) (by omega)];omega
   dsimp only
   rw[hg,ht,hw]
   refine(qw6 _ _ _ _ (by omega)).trans ((qw6 _ _ _ _ ?_).trans rfl)
   rw[List.length_append]
   omega
 ·refine(qB ?_).trans ?_
  ·dsimp only
   by_cases h:l.length≤20
   ·rw[qC (show ¬(((min l.length 20:Nat):Int)<qi l) by simp only[qi];omega)]
    rfl
   ·rw[qC (show ¬(((min l.length 20:Nat):Int)<20) by omega),Bool.and_false]
  ·have:l.take (min l.length 20)=l.take 20:=by
    rw[List.take_eq_take_iff]
    omega
   dsimp only
   rw[this]
   rfl
end Go.Av
end
section
namespace Go.Av
open Go
end Go.Av
end
section
namespace Go.Av
open Go
theorem qL8 {L L':List Int} (h:∀l,L.contains l=true→L'.contains l=true) (j:qk.den) (hj:jOk L j=true):jOk L' j=true:=by
 unfold jOk at *
 cases h0:(j.1==(0:Int))
 ·rw[h0,cond_false] at hj
  cases h1:(j.1==(1:Int))
  ·rw[h1,cond_false] at hj
   simp only[cond_false]
   rw[Bool.and_eq_true,Bool.and_eq_true] at hj ⊢
   exact⟨hj.1,hj.2.1,h _ hj.2.2⟩
  ·rfl
 ·rw[h0,cond_true] at hj
  exact hj
theorem qMi {L L':List Int} (h:∀l,L.contains l=true→L'.contains l=true) {H:List qk.den} (hj:H.all (jOk L)=true):H.all (jOk L')=true :=
 List.all_eq_true.2 fun j hm=>qL8 h j (List.all_eq_true.1 hj j hm)
theorem qCa {L:List Int} (n:Int):(its [qrz 3 (lo false n),qHq 4 1 3]).all (jOk L)=true:=by
 show(opK (qp 3 3 0 0 0 (lo false n) 0)&&(true&&true))=true
 rw[qyZ 3 n (by omega)]
 rfl
theorem qvF (i o r:Nat) (b:Bool):qd2 (qmM i o r b)=bif b then[20,21,22,23,0,1,2,3,4,5,6,7,8,9,10,11,12] else[20,21,0,1,2,3,4,5,6,7,8,9,10,11,12]:=by
 cases b
 ·kernel_rfl
 ·kernel_rfl
theorem qNw (l:Int) (h:([0,1,2,3,4,5,6,7,8,9,10,11,12]:List Int).contains l=true) (b:Bool):(bif b then[20,21,22,23,0,1,2,3,4,5,6,7,8,9,10,11,12] else[20,21,0,1,2,3,4,5,6,7,8,9,10,11,12]:List Int).contains l=true:=by
 have h:=List.contains_iff_mem.1 h
 refine List.contains_iff_mem.2 ?_
 cases b
 ·exact List.mem_append_right [20,21] h
 ·exact List.mem_append_right [20,21,22,23] h
theorem qKW (i o:Int) (b:Bool):(qtO false b b i o 0 20).all (jOk (bif b then[20,21,22,23,0,1,2,3,4,5,6,7,8,9,10,11,12] else[20,21,0,1,2,3,4,5,6,7,8,9,10,11,12]))=true:=by
 cases b
 ·unfold qtO
  dsimp only
  simp only[List.all_append]
  rw[qpZ _ (by kernel_rfl),qp8 (by kernel_rfl),qCa]
  kernel_rfl
 ·unfold qtO
  dsimp only
  simp only[List.all_append]
  rw[qpZ _ (by kernel_rfl),qp8 (by kernel_rfl),qCa,qpZ _ (by kernel_rfl),qp8 (by kernel_rfl)]
  kernel_rfl
theorem qtY (i o r:Nat) (b:Bool):(qmM i o r b).length=bif b then 177 else 146:=by
 cases b
 ·kernel_rfl
 ·kernel_rfl
theorem qMc (i o r:Nat) (b:Bool):qeL 0 (qmM i o r b)=qv4 b+(bif b then 7 else 6):=qog i o r 0 b
theorem qLi (i o r:Nat) (b:Bool):(qc2 (fun l=>qeL l (qmM i o r b)) (qmM i o r b)).length=bif b then 160 else 131:=by
 cases b
 ·kernel_rfl
 ·kernel_rfl
theorem qAp (i o r:Nat) (b:Bool):CodeOk (qmM i o r b):=by
 refine⟨?_,?_,?_,?_,?_⟩
 ·rw[qvF]
  unfold qmM
  rw[List.all_append,qKW,Bool.true_and]
  refine qMi (fun l h=>qNw l ?_ b) (qNr o r b)
  rw[qAA] at h
  exact h
 ·rw[qvF]
  cases b<;>decide
 ·rw[qvF]
  cases b<;>decide
 ·rw[qMc,qLi]
  cases b<;>decide
 ·rw[qtY]
  cases b<;>decide
def qCB:PI→PI
 | .op i=>.op i
 | .br o c t=>.br o c (2*t)
theorem qsr:∀H:List qk.den,qd2 (qnk H)=qd2 H
 |[]=>rfl
 |j::H=>by
  have ih:=qsr H
  rw[qnz]
  cases h:(j.1==(1:Int))
  ·have h':(j.1 != (1:Int))=true:=by unfold bne;rw[h];rfl
   rw[h',cond_true]
   simp only[List.cons_append,List.nil_append,qd2,h,cond_false]
   exact ih
  ·have h':(j.1 != (1:Int))=false:=by unfold bne;rw[h];rfl
   rw[h',cond_false]
   simp only[List.cons_append,List.nil_append,qd2,h,cond_true]
   rw[ih]
theorem qw4 (l:Int):∀H:List qk.den,qeL l (qnk H)=2*qeL l H
 |[]=>rfl
 |j::H=>by
  have ih:=qw4 l H
  rw[qnz]
  cases h:(j.1==(1:Int))
  ·have h':(j.1 != (1:Int))=true:=by unfold bne;rw[h];rfl
   rw[h',cond_true]
   simp only[List.cons_append,List.nil_append,qeL,h,cond_false]
   omega
  ·have h':(j.1 != (1:Int))=false:=by unfold bne;rw[h];rfl
   rw[h',cond_false]
   simp only[List.cons_append,List.nil_append,qeL,h,cond_true]
   rw[ih]
   cases (j.2.1==l)<;>rfl
theorem qzZ (f:Int→Nat):∀H:List qk.den,qc2 (fun l=>2*f l) (qnk H)=(qc2 f H).flatMap fun p=>[qCB p,qCB p]
 |[]=>rfl
 |j::H=>by
  have ih:=qzZ f H
  have e:piL (fun l=>2*f l) j=qCB (piL f j):=by
   unfold piL
   cases (j.1==(2:Int))<;>rfl
  rw[qnz]
  cases h:(j.1==(1:Int))
  ·have h':(j.1 != (1:Int))=true:=by unfold bne;rw[h];rfl
   rw[h',cond_true]
   simp only[List.cons_append,List.nil_append,qc2,h,cond_false,List.flatMap_cons]
   rw[ih,e]
  ·have h':(j.1 != (1:Int))=false:=by unfold bne;rw[h];rfl
   rw[h',cond_false]
   simp only[List.cons_append,List.nil_append,qc2,h,cond_true]
   rw[ih]
theorem qLd (H:List qk.den):qc2 (fun l=>qeL l (qnk H)) (qnk H)=(qc2 (fun l=>qeL l H) H).flatMap fun p=>[qCB p,qCB p]:=by
 rw[←qzZ]
 congr 1
 funext l
 exact qw4 l H
theorem qF2 {α:Type} (g:α→α):∀l:List α,(l.flatMap fun p=>[g p,g p]).length=2*l.length
 |[]=>rfl
 |p::l=>by
  rw[List.flatMap_cons,List.length_append,qF2 g l]
  simp only[List.length_cons,List.length_nil]
  omega
theorem qB7:∀H:List qk.den,(qnk H).length≤2*H.length
 |[]=>Nat.le_refl _
 |j::H=>by
  have ih:=qB7 H
  rw[qnz,List.length_append,List.length_cons]
  cases (j.1 != (1:Int))
  ·show 1+_≤_
   omega
  ·show 2+_≤_
   omega
theorem qL2 {H:List qk.den} (hc:CodeOk H) (hl:H.length≤1000):CodeOk (qnk H):=by
 refine⟨?_,by rw[qsr];exact hc.nodup,by rw[qsr];exact hc.lab,?_,?_⟩
 ·rw[qsr]
  refine List.all_eq_true.2 fun j hj=>?_
  unfold qnk at hj
  obtain⟨i,hi,hji⟩:=List.mem_flatMap.1 hj
  have:=List.all_eq_true.1 hc.all i hi
  have e:j=i:=by
   revert hji
   cases (i.1 != (1:Int))<;>simp
  rw[e]
  exact this
 ·rw[qw4,qLd,qF2]
  have:=hc.cnt
  omega
 ·have:=qB7 H
  omega
theorem qHA {I M:Int} {l:List qbi.den} {u:Bool} (h:qdm (I,M,l,u,())=true):∃i m:Nat,I=(i:Int)∧M=(m:Int)∧i≤8∧m≤8:=by
 have h:(decide (I≥0)&&(decide (I≤8)&&(decide (M≥0)&&decide (M≤8))))=true:=h
 simp only[Bool.and_eq_true,decide_eq_true_eq] at h
 exact⟨I.toNat,M.toNat,by omega,by omega,by omega,by omega⟩
def qbY (i m:Nat):qbQ.den:=((0:Int),((4*m:Nat):Int),((4*(i+m+1):Nat):Int),())
def qcW (i m:Nat) (l:List qbi.den) (u:Bool):List qbi.den:=qfC (l.take 20)++(bif u&&decide (0<m) then[(2,(i:Int),qda .i64 (qfB (i:Int) (l.take 20) 0) 1,())] else[])
def qhr (i m:Nat) (b tw:Bool):List qk.den:=bif tw then qnk (qmM (4*i) (4*m) (4*(i+m+1)) b) else qmM (4*i) (4*m) (4*(i+m+1)) b
theorem qvC (i m:Nat) (l:List qbi.den) (u:Bool):(qcz (qbY i m) (qcW i m l u)).length≤205:=by
 have a:=qr0 (qbY i m) (qcW i m l u)
 unfold qcW at a ⊢
 rw[List.length_append,qvf,List.length_take] at a
 have h2:(bif u&&decide (0<m) then[((2:Int),(i:Int),qda .i64 (qfB (i:Int) (l.take 20) 0) 1,())] else[]:List qbi.den).length≤1:=by
  cases u&&decide (0<m)
  ·exact Nat.zero_le _
  ·exact Nat.le_refl _
 omega
theorem quW (i m:Nat) (b tw:Bool):CodeOk (qhr i m b tw):=by
 unfold qhr
 cases tw
 ·exact qAp _ _ _ b
 ·exact qL2 (qAp _ _ _ b) (by rw[qtY];cases b<;>decide)
theorem qoG (i m:Nat) (l:List qbi.den) (u:Bool) (hi:i≤8) (hm:m≤8):qbH ((i:Int),(m:Int),l,u,())=qbY i m:=by
 show((0:Int),w64 (4*(m:Int)),w64 (w64 (w64 (4*(i:Int))+w64 (4*(m:Int)))+4),())=_
 rw[qu (n:=4*(m:Int)) (by omega) (by omega),qu (n:=4*(i:Int)) (by omega) (by omega),qu (n:=4*(i:Int)+4*(m:Int)) (by omega) (by omega),qu (by omega) (by omega)]
 unfold qbY
 rw[show 4*(m:Int)=((4*m:Nat):Int) by omega,show 4*(i:Int)+((4*m:Nat):Int)+4=((4*(i+m+1):Nat):Int) by omega]
theorem qIA (i m:Nat) (l:List qbi.den) (u b tw:Bool) (hi:i≤8) (hm:m≤8):qpC (((i:Int),(m:Int),l,u,()),b,tw)++qpG (((i:Int),(m:Int),l,u,()),b,tw)=qmM (4*i) (4*m) (4*(i+m+1)) b∧qyd (((i:Int),(m:Int),l,u,()),b,tw)=qhr i m b tw:=by
 have e1:qpC (((i:Int),(m:Int),l,u,()),b,tw)=qtO false b b ((4*i:Nat):Int) ((4*m:Nat):Int) 0 20:=by
  show qmj (w64 (4*(i:Int)),(qbH ((i:Int),(m:Int),l,u,())).2.1,b,0,20)=_
  rw[qoG i m l u hi hm,qu (by omega) (by omega),show 4*(i:Int)=((4*i:Nat):Int) by omega]
  rfl
 have e2:qpG (((i:Int),(m:Int),l,u,()),b,tw)=qqY (4*m) (4*(i+m+1)) b:=by
  show qdA (qbH ((i:Int),(m:Int),l,u,()),b,0,1)=_
  rw[qoG i m l u hi hm]
  exact qQv _ _ _
 have e:qpC (((i:Int),(m:Int),l,u,()),b,tw)++qpG (((i:Int),(m:Int),l,u,()),b,tw)=qmM (4*i) (4*m) (4*(i+m+1)) b:=by
  rw[e1,e2]
  rfl
 refine⟨e,?_⟩
 unfold qyd qhr
 rw[e]
 rfl
theorem qIf (i m:Nat) (l:List qbi.den) (u b tw:Bool) (hi:i≤8) (hm:m≤8) (pre:List qA.den) (hpre:∀j∈pre,opK j=true) (hlen:pre.length≤205) :
  (qyS (((i:Int),(m:Int),l,u,()),b,tw) (its pre)).val=some (qbp (its pre++qhr i m b tw,qbY i m,0),((pre.length:Nat):Int),()):=by
 obtain⟨c1,c2⟩:=qIA i m l u b tw hi hm
 have hsz:=qoG i m l u hi hm
 obtain⟨g,_⟩:=qBs hpre (by omega) (quW i m b tw) (4*m) (4*(i+m+1)) (by omega) (by omega) (by omega) (by omega)
 have hgl:(qpC (((i:Int),(m:Int),l,u,()),b,tw)).length+(qpG (((i:Int),(m:Int),l,u,()),b,tw)).length≤177:=by
  rw[←List.length_append,c1,qtY]
  cases b<;>decide
 have hcl:=(quW i m b tw).len
 have hil:(its pre).length=pre.length:=by unfold its;rw[List.length_map]
 unfold qyS
 refine(qe ?_).trans ((qe ?_).trans ((qe ?_).trans ((qe ?_).trans ?_)))
 ·rw[Nat.ble_eq]
  show((qpC (((i:Int),(m:Int),l,u,()),b,tw)).length+(qpG (((i:Int),(m:Int),l,u,()),b,tw)).length)*80≤_
  omega
 ·show(bif tw then qnl (qpC _++qpG _) else true)=true
  cases tw
  ·rfl
  ·rw[c1,cond_true]
   unfold qnl
   rw[qtY]
   cases b<;>decide
 ·rw[Nat.ble_eq,c2,hil]
  omega
 ·dsimp only
  rw[c2,hsz]
  exact g
 ·dsimp only
  rw[c2,hsz]
  unfold qi
  rw[hil]
  generalize qbp (its pre++qhr i m b tw,qbY i m,0)=q
  rfl
theorem qAE (i m:Nat) (l:List qbi.den) (u b tw:Bool) (hi:i≤8) (hm:m≤8) :
  qem (((i:Int),(m:Int),l,u,()),b,tw)=true∧qr (((i:Int),(m:Int),l,u,()),b,tw) =
   (qbp (its (qcz (qbY i m) (qcW i m l u))++qhr i m b tw,qbY i m,0),(((qcz (qbY i m) (qcW i m l u)).length:Nat):Int),()):=by
 have hsz:=qoG i m l u hi hm
 have hlen:=qvC i m l u
 have hB:=qIf i m l u b tw hi hm (qcz (qbY i m) (qcW i m l u)) (qt8 _ _) hlen
 have hT:(qex (((i:Int),(m:Int),l,u,()),b,tw)).val=some (qbp (its (qcz (qbY i m) (qcW i m l u))++qhr i m b tw,qbY i m,0),(((qcz (qbY i m) (qcW i m l u)).length:Nat):Int),()):=by
  unfold qex
  refine(qcP (qJn ((i:Int),(m:Int),l,u,()) _)).trans ?_
  dsimp only
  rw[hsz]
  have hd:decide ((m:Int) > 0)=decide (0<m):=decide_eq_decide.2 (by omega)
  rw[hd]
  unfold qcW at hB hlen ⊢
  rw[←qwP,qvB] at hB ⊢
  cases hu:(u&&decide (0<m))
  ·rw[hu] at hB
   refine(qB rfl).trans ?_
   have e:qgy (qbY i m) []=[]:=rfl
   rw[cond_false,e,List.append_nil] at hB ⊢
   exact hB
  ·rw[hu] at hB
   rw[cond_true] at hB ⊢
   obtain⟨g,v⟩:=qDM (i:Int) (m:Int) l u (i:Int)
   refine(qe rfl).trans ((qe g).trans ?_)
   rw[v]
   refine(qw6 _ _ _ _ ?_).trans hB
   rw[qvE]
   have a:=qr0 (qbY i m) (qfC (l.take 20))
   rw[qvf,List.length_take] at a
   omega
 exact⟨by unfold qem;rw[hT];rfl,by unfold qr PO.qH;rw[hT];rfl⟩
end Go.Av
end
section
namespace Go.Av
open Go
theorem qEq (v:Int):wn (qda .i64 v 1)≠wn v:=by
 rw[qI5]
 have e:wn 1=1:=rfl
 rw[e]
 intro h
 have h2:wn v ^^^ (wn v ^^^ 1)=wn v ^^^ wn v:=by rw[h]
 rw[←Nat.xor_assoc,Nat.xor_self,Nat.zero_xor] at h2
 cases h2
theorem qM7 (i m:Nat) (l:List qbi.den) (u b tw:Bool) (hi:i≤8) (hm:m≤8) :
  ∃(n:Nat) (s1:IS),SzOk (4*m) (4*(i+m+1)) n ∧
   (∀t,t<m→s1.2.2 (537133056+4*(i+t))=wn (qhn i l t)) ∧
   ((u&&decide (0<m))=false→∀t,t<m→s1.2.2 (537395200+4*(i+t))=wn (qhn i l t)) ∧
   ((u&&decide (0<m))=true→s1.2.2 (537395200+4*i)≠wn (qhn i l 0)) ∧
   ∀(f:qX.den),qM f=0→((((qcz (qbY i m) (qcW i m l u)).length:Nat):Int)≤(show Int from f.2.1)∨f=qev)→∀B:Nat,B≤50000→(qcz (qbY i m) (qcW i m l u)).length≤B →
    ∃cy:Int,∀r,goI (qiM (qhr i m b tw) (4*m) (4*(i+m+1)) n) f (B-(qcz (qbY i m) (qcW i m l u)).length) (qcz (qbY i m) (qcW i m l u)).length (false,0,s1)=r →
     qO ((qr (((i:Int),(m:Int),l,u,()),b,tw)).1,[],f,(B:Int)) =
      ((r.2.2.1,(((qcz (qbY i m) (qcW i m l u)).length+r.1:Nat):Int),cy,((r.2.1:Nat):Int),((r.2.2.2.2.2.2 537919488:Nat):Int),((r.2.2.2.2.2.2 538968064:Nat):Int),
       qdn r.2.2.2.2.2.2 537001984 (4*m),qdn r.2.2.2.2.2.2 537133056 (4*(i+m+1)),qdn r.2.2.2.2.2.2 537395200 (4*(i+m+1)),()),0,()):=by
 obtain⟨_,hV⟩:=qAE i m l u b tw hi hm
 have hlen:=qvC i m l u
 have hcode:=quW i m b tw
 obtain⟨_,hd,adr,k,him,hk⟩:=qBs (pre:=qcz (qbY i m) (qcW i m l u)) (H:=qhr i m b tw) (qt8 _ _) (by omega) hcode (4*m) (4*(i+m+1)) (by omega) (by omega) (by omega) (by omega)
 have hV1:(qr (((i:Int),(m:Int),l,u,()),b,tw)).1=qbp (its (qcz (qbY i m) (qcW i m l u))++qhr i m b tw,((0:Int),((4*m:Nat):Int),((4*(i+m+1):Nat):Int),()),0):=by
  rw[hV]
  rfl
 rw[hV1]
 generalize qbp (its (qcz (qbY i m) (qcW i m l u))++qhr i m b tw,((0:Int),((4*m:Nat):Int),((4*(i+m+1):Nat):Int),()),0)=img at *
 have hs:SzOk (4*m) (4*(i+m+1)) img.length:=him.prg.sz
 obtain⟨ρ1,e1⟩:=quM (E:=⟨qcl (its (qcz (qbY i m) (qcW i m l u))++qhr i m b tw) (its (qcz (qbY i m) (qcW i m l u))++qhr i m b tw).length,4*m,4*(i+m+1),img.length,qbM (its (qcz (qbY i m) (qcW i m l u))++qhr i m b tw) k⟩) hs (qcW i m l u) (qdl (4*m) (4*(i+m+1)) img.length img)
 have e1:qdK ⟨qcl (its (qcz (qbY i m) (qcW i m l u))++qhr i m b tw) (its (qcz (qbY i m) (qcW i m l u))++qhr i m b tw).length,4*m,4*(i+m+1),img.length,qbM (its (qcz (qbY i m) (qcW i m l u))++qhr i m b tw) k⟩ (qcz (qbY i m) (qcW i m l u)) (qdl (4*m) (4*(i+m+1)) img.length img)=some (ρ1,(qdl (4*m) (4*(i+m+1)) img.length img).2.1,qf8 (qbY i m) (qcW i m l u) (qdl (4*m) (4*(i+m+1)) img.length img).2.2):=e1
 have z0:∀b' t,(b'=537133056∨b'=537395200)→t<i+m+1→(qdl (4*m) (4*(i+m+1)) img.length img).2.2 (b'+4*t)=wn 0:=fun b' t hb ht=>by
  refine qHH hs (by omega) (by omega) (by omega) img rfl ?_
  rcases hb with rfl |rfl
  ·rw[(qxH hs t (by omega)).1];rfl
  ·rw[(qyD hs t (by omega)).1];rfl
 have zz:∀t,t<i+m+1→qf8 (qbY i m) (qfC (l.take 20)) (qdl (4*m) (4*(i+m+1)) img.length img).2.2 (537133056+4*t)=wn (qfB (t:Int) (l.take 20) 0)∧qf8 (qbY i m) (qfC (l.take 20)) (qdl (4*m) (4*(i+m+1)) img.length img).2.2 (537395200+4*t)=wn (qfB (t:Int) (l.take 20) 0):=fun t ht =>
  qAn (4*m) (i+m+1) (by omega) t ht (l.take 20) _ 0 (z0 _ t (.inl rfl) ht) (z0 _ t (.inr rfl) ht)
 generalize hW0:qf8 (qbY i m) (qfC (l.take 20)) (qdl (4*m) (4*(i+m+1)) img.length img).2.2=W0 at zz
 have hW:qf8 (qbY i m) (qcW i m l u) (qdl (4*m) (4*(i+m+1)) img.length img).2.2=qf8 (qbY i m) (bif u&&decide (0<m) then[(2,(i:Int),qda .i64 (qfB (i:Int) (l.take 20) 0) 1,())] else[]) W0:=by
  rw[←hW0]
  exact qAt _ _ _ _
 rw[hW] at e1
 refine⟨img.length,(ρ1,(qdl (4*m) (4*(i+m+1)) img.length img).2.1,qf8 (qbY i m) (bif u&&decide (0<m) then[(2,(i:Int),qda .i64 (qfB (i:Int) (l.take 20) 0) 1,())] else[]) W0),hs,fun t ht=>?_,fun hu t ht=>?_,fun hu=>?_,fun f hf hfs B hB hpB=>?_⟩
 ·show qf8 _ _ W0 _=_
  unfold qhn
  have h1:=(zz (i+t) (by omega)).1
  cases hu:(u&&decide (0<m))
  ·exact h1
  ·rw[←h1]
   exact qzJ 2 (i:Int) (qda .i64 (qfB (i:Int) (l.take 20) 0) 1) (4*m) (i+m+1) (.inr rfl) (by omega) W0 (i+t) 537133056 (.inl ⟨rfl,rfl⟩) (by omega)
 ·show qf8 _ _ W0 _=_
  unfold qhn
  rw[hu]
  exact(zz (i+t) (by omega)).2
 ·show qf8 _ _ W0 _≠_
  unfold qhn
  rw[hu,cond_true]
  have hp:=qzr 2 (i:Int) (qda .i64 (qfB (i:Int) (l.take 20) 0) 1) (4*m) (i+m+1) (.inr rfl) (by omega) W0 i 537395200 (.inr ⟨rfl,rfl⟩) (by omega)
  rw[beq_self_eq_true,cond_true] at hp
  have hp:qf8 (qbY i m) [(2,(i:Int),qda .i64 (qfB (i:Int) (l.take 20) 0) 1,())] W0 (537395200+4*i)=_:=hp
  rw[hp]
  exact qEq _
 ·obtain⟨cy,hrun⟩:=qIs (qt8 (qbY i m) (qcW i m l u)) (by omega) hcode (by omega) (by omega) (by omega) him hk e1 f hf hfs (B-(qcz (qbY i m) (qcW i m l u)).length) (by omega)
  rw[show(qcz (qbY i m) (qcW i m l u)).length+(B-(qcz (qbY i m) (qcW i m l u)).length)=B by omega] at hrun
  refine⟨cy,fun r hr=>?_⟩
  rw[hr] at hrun
  exact hrun
theorem qKg (i m:Nat) (l:List qbi.den) (u:Bool) (hi:i≤8) (hm:m≤8) (W:Nat→Nat) (h:∀t,t<m→W (537001984+4*t)=wn (qhn i l t)):qdn W 537001984 (4*m)=qcA ((i:Int),(m:Int),l,u,()):=by
 rw[(qAH i m l u hi hm).2]
 unfold qdn
 rw[show 4*m / 4=m by omega]
 refine qq4 fun t ht=>?_
 have ht:=List.mem_range.1 ht
 rw[h t ht]
 have:=qzz ((i+t:Nat):Int) (l.take 20) 0 (by omega)
 have e:((wn (qhn i l t):Nat):Int)=qhn i l t:=by
  rw[qhO]
  unfold qhn
  omega
 rw[e]
end Go.Av
end
section
namespace Go.Av
open Go
theorem qJ5 (i m:Nat) (b:Bool) (n:Nat):qiM (qhr i m b false) (4*m) (4*(i+m+1)) n=qj5 (4*i) (4*m) (4*(i+m+1)) n b:=rfl
end Go.Av
end
section
namespace Go.Av
open Go
theorem qIP (mo mr:Nat) (h1:mo≤20) (h2:1≤mr∧mr≤30):qfH ((0:Int),((4*mo:Nat):Int),((4*mr:Nat):Int),())=((128*mo+256*mr+256:Nat):Int):=by
 have hc:=qsf (4*mo) (4*mr) 0 (by omega) (by omega) (by omega) (by omega) (by omega)
 have hc:qbt (((0:Int),((4*mo:Nat):Int),((4*mr:Nat):Int),()),0)=0:=hc
 unfold qfH qix PO.qH
 dsimp only
 rw[hc]
 simp only[PO.val]
 show w64 (w64 (32*w64 (((4*mo:Nat):Int)+w64 (2*((4*mr:Nat):Int))))+256)=_
 rw[qu (n:=2*((4*mr:Nat):Int)) (by omega) (by omega),qu (n:=((4*mo:Nat):Int)+2*((4*mr:Nat):Int)) (by omega) (by omega),qu (n:=32*(((4*mo:Nat):Int)+2*((4*mr:Nat):Int))) (by omega) (by omega),qu (by omega) (by omega)]
 omega
end Go.Av
end
section
namespace Go.Av
open Go
theorem qqh (x:qd qb2) (_:qv2 maxLen qb2 x):(qhK x).val=some true:=by
 obtain⟨⟨I,M,l,u,z⟩,f⟩:=x
 unfold qhK
 dsimp only
 cases hm:qdm (I,M,l,u,())
 ·exact(qe rfl).trans ((qe rfl).trans rfl)
 ·cases u
  ·cases hck:(qM f != (0:Int))
   ·have hf:qM f=0:=by simpa using hck
    obtain⟨i,m,rfl,rfl,hi,hm8⟩:=qHA hm
    obtain⟨hG,hV⟩:=qAE i m l false true false hi hm8
    have hlen:=qvC i m l false
    have hsz:=qoG i m l false hi hm8
    obtain⟨n,s1,hs,hA,hB,hU,hR⟩:=qM7 i m l false true false hi hm8
    have hB:=hB rfl
    obtain⟨cy,hrun⟩:=hR qev qz9 (.inr rfl) 20000 (by omega) (by omega)
    rw[qJ5] at hrun
    have hI:i+m≤i+m+1:=by omega
    obtain⟨s2,s3,s4,g1,g2,g3,zA,w2,w3⟩:=qHE hs hI (fun t=>wn (qhn i l t)) s1.2.2 (fun t ht=>⟨hA t ht,hB t ht⟩) s1 rfl
    have g:=(g1.trans g2).ends g3
    rw[show 18*m+5+(26*m+5)+6=44*m+16 by omega] at g
    have hgo:goI (qj5 (4*i) (4*m) (4*(i+m+1)) n true) qev (20000-(qcz (qbY i m) (qcW i m l false)).length) (qcz (qbY i m) (qcW i m l false)).length (false,0,s1)=(44*m+16,0,true,51,s4):=by
     rw[qtR]
     exact qLr g (by omega)
    have hr:=hrun _ hgo
    dsimp only at hr
    have hr:qO ((qr (((i:Int),(m:Int),l,false,()),true,false)).1,[],(0,0,0,0,()),20000)=_:=hr
    have hV2:(qr (((i:Int),(m:Int),l,false,()),true,false)).2.1=(((qcz (qbY i m) (qcW i m l false)).length:Nat):Int):=by
     rw[hV]
    have hc4:s4.2.2 537919488=3235799053:=by rw[w3,qlb]
    rw[hc4] at hr
    have hsl:=qIP m (i+m+1) (by omega) (by omega)
    have hsl:qfH (qbY i m)=_:=hsl
    rw[hV2,hsz,hsl]
    generalize hk0:(qcz (qbY i m) (qcW i m l false)).length=k0 at *
    refine(qe rfl).trans ((qB rfl).trans ((qe hG).trans ?_))
    rw[hr]
    dsimp only
    rw[qwc]
    refine(qe rfl).trans ((qB rfl).trans ?_)
    cases hst:decide ((show Int from f.2.1)<(k0:Int))
    ·have hfs:(k0:Int)≤(show Int from f.2.1):=Int.not_lt.1 (of_decide_eq_false hst)
     obtain⟨cy2,hrun2⟩:=hR f hf (.inl hfs) 40000 (by omega) (by omega)
     rw[qJ5] at hrun2
     obtain⟨k,c,j',s',b1,b2,b3⟩:=qH3 hs hI (fun t=>wn (qhn i l t)) s1.2.2 (fun t ht=>⟨hA t ht,hB t ht⟩) f k0 hfs s1 rfl (40000-k0) (by omega)
     have b2:goI (qj5 (4*i) (4*m) (4*(i+m+1)) n true) f (40000-k0) (k0:Int) (false,0,s1)=_:=b2
     have hr2:=hrun2 _ b2
     dsimp only at hr2
     have hr2:qO ((qr (((i:Int),(m:Int),l,false,()),true,false)).1,[],f,40000)=_:=hr2
     have l1:=qtM s'.2.2 537001984 (4*m) (by omega)
     have l2:=qtM s'.2.2 537133056 (4*(i+m+1)) (by omega)
     have l3:=qtM s'.2.2 537395200 (4*(i+m+1)) (by omega)
     have c1:decide (((k0+k:Nat):Int) > w64 (((k0+(44*m+16):Nat):Int)+((128*m+256*(i+m+1)+256:Nat):Int)))=false:=by
      rw[qu (by omega) (by omega)]
      exact qC (by omega)
     obtain⟨gI,_⟩:=qAH i m l false hi hm8
     refine(qB rfl).trans ?_
     rw[hr2]
     dsimp only
     rw[c1]
     refine(qe rfl).trans ((qB rfl).trans ?_)
     rcases b3 with hw |⟨hc,hX⟩
     ·have z1:=qsA (W:=s'.2.2) (b:=537001984) (n:=4*m) (fun t ht=>hw.out t (by omega))
      have z2:=qsA (W:=s'.2.2) (b:=537133056) (n:=4*(i+m+1)) (fun t ht=>hw.a t (by omega))
      have z3:=qsA (W:=s'.2.2) (b:=537395200) (n:=4*(i+m+1)) (fun t ht=>hw.b t (by omega))
      rw[hw.commit]
      generalize qdn s'.2.2 537001984 (4*m)=X at *
      generalize qdn s'.2.2 537133056 (4*(i+m+1))=Y at *
      generalize qdn s'.2.2 537395200 (4*(i+m+1))=Z at *
      generalize ((s'.2.2 538968064:Nat):Int)=stt
      obtain⟨v1,v2⟩:=qIN true ((k0+k:Nat):Int) cy2 ((c:Nat):Int) ((0:Nat):Int) stt X Y Z (by omega) (by omega) (by omega)
      rw[z1,z2,z3] at v2
      rw[qwc,v1,v2]
      have hkd:((bif !true then((0:Int),([]:List UInt8),()) else bif ((0:Nat):Int)==3235799053 then(1,X,()) else bif stt==195890093 then(2,[],()) else(3,[],())).1 != 1)=true:=by
       cases (stt==(195890093:Int))<;>rfl
      rw[hkd]
      refine(qe ?_).trans ?_
      ·cases (((c:Nat):Int)==0)<;>rfl
      ·show some (((c:Nat):Int)==0||true&&true)=some true
       cases (((c:Nat):Int)==0)<;>rfl
     ·subst hc
      by_cases hcm:s'.2.2 537919488=3235799053
      ·have hO:=qKg i m l false hi hm8 s'.2.2 (hX hcm)
       rw[hO,hcm]
       generalize qcA ((i:Int),(m:Int),l,false,())=X at *
       generalize qdn s'.2.2 537133056 (4*(i+m+1))=Y at *
       generalize qdn s'.2.2 537395200 (4*(i+m+1))=Z at *
       generalize ((s'.2.2 538968064:Nat):Int)=stt
       rw[qwc]
       refine(qe ?_).trans ?_
       ·show(qdq ((i:Int),(m:Int),l,false,())&&bif X==X then true else true)=true
        rw[gI]
        cases (X==X)<;>rfl
       ·show some (X==X&&(true||_))=some true
        rw[beq_self_eq_true]
        rfl
      ·have hne:(((s'.2.2 537919488:Nat):Int)==3235799053)=false:=beq_eq_false_iff_ne.2 (by omega)
       generalize qdn s'.2.2 537001984 (4*m)=X at *
       generalize qdn s'.2.2 537133056 (4*(i+m+1))=Y at *
       generalize qdn s'.2.2 537395200 (4*(i+m+1))=Z at *
       generalize ((s'.2.2 538968064:Nat):Int)=stt
       generalize ((s'.2.2 537919488:Nat):Int)=cm at *
       rw[qwc,hne]
       have hkd:((bif !true then((0:Int),([]:List UInt8),()) else bif false then(1,X,()) else bif stt==195890093 then(2,[],()) else(3,[],())).1 != 1)=true:=by
        cases (stt==(195890093:Int))<;>rfl
       rw[hkd]
       exact(qe rfl).trans rfl
    ·exact(qe rfl).trans rfl
   ·exact(qe (by cases qdm (I,M,l,false,())<;>rfl)).trans ((qe rfl).trans rfl)
  ·exact(qe rfl).trans ((qe rfl).trans rfl)
end Go.Av
end
