/- Texts of the proof, one behind the other. -/
import Derived.Test.YtealbjacocgjcaaGreatGateSkipsK30
import Derived.Test.YtealbjacocgjcaaGreatGateSkipsK28
import Derived.Test.YtealbjacocgjcaaGreatGateSkipsK26
import Derived.Test.YtealbjacocgjcaaGreatGateSkipsK27
section
namespace Go.Av
open Go
def gets (r:Int):List Int→Nat→List tIns.den
 |[],_=>[]
 |t::u,i=>getI (4*(t+1),r,(i:Int))++gets r u (i+1)
section
variable (r:Int) (hr:r=0∨r=1) (o:tOp.den) (s:tSpot.den) (u:List Int) (hu:u.length≤4)
include hr hu
end
end Go.Av
end
section
namespace Go.Av
open Go
theorem kinds (k:Int):k=1∨k=2∨k=3∨k=4∨k=5∨k=6∨k=7∨k=8∨k=9∨k=10∨k=11∨k=12∨k=13∨k=14∨k=15∨k=16∨k=17∨k=18∨k=19∨(k<1∨19<k):=by omega
end Go.Av
end
section
namespace Go.Av
open Go
end Go.Av
end
section
namespace Go.Av
open Go
end Go.Av
end
section
namespace Go.Av
open Go
end Go.Av
end
section
namespace Go.Av
open Go
end Go.Av
end
section
namespace Go.Av
open Go
theorem rg_set (l:List Int) (k j v:Int) (hk:0≤k∧k≤12) (hj:0≤j) (hl:l.length=15):rg (l.set k.toNat v) j=if j=k then v else rg l j:=by
 unfold rg
 rw[List.getD_eq_getElem?_getD,List.getD_eq_getElem?_getD,List.getElem?_set]
 by_cases h:j=k
 ·subst h
  rw[if_pos rfl,if_pos (by omega),if_pos rfl]
  rfl
 ·rw[if_neg h,if_neg (by omega)]
def nextS (s:tState.den) (op rd rn rm ra imm ld:Int):tState.den:=bif op==24||op==25 then wState s else makesS (wState s) op rd rn rm ra imm ld
theorem stepV_ok (s:tState.den) (op rd rn rm ra imm cond:Int) (w:Bool) (ld:Int) (h2:op≠2):stepV false s op rd rn rm ra imm cond w ld=(((nextS s op rd rn rm ra imm ld).1,(wn (wn s.2.1+farV (wState s) op imm cond w):Int),(nextS s op rd rn rm ra imm ld).2.2),true,()):=by
 have b2:(op==2)=false:=beq_eq_false_iff_ne.2 h2
 unfold stepV
 rw[b2]
 rfl
theorem far_plain (s:tState.den) (op imm cond:Int) (w:Bool) (h:op≠24) (h':op≠25):farV s op imm cond w=bif isLong op w then 4 else 2:=by
 have b1:(op==24)=false:=beq_eq_false_iff_ne.2 h
 have b2:(op==25)=false:=beq_eq_false_iff_ne.2 h'
 unfold farV goesV
 rw[b1,b2]
 rfl
theorem band_wn (n:Int):band .i64 n 4294967295=(wn n:Int):=by rw[band_32,wn_int]
end Go.Av
end
section
namespace Go.Av
open Go
end Go.Av
end
section
namespace Go.Av
open Go
end Go.Av
end
section
namespace Go.Av
open Go
def otherRows (k:Nat) (m m':MemT):Prop:=m'.1=m.1∧∀j,j≠k→(rowsOf m'.2 m.1.2.1).getD j []=(rowsOf m.2 m.1.2.1).getD j []
theorem otherRows.refl (k:Nat) (m:MemT):otherRows k m m:=⟨rfl,fun _ _=>rfl⟩
theorem otherRows.trans {k:Nat} {a b c:MemT} (h:otherRows k a b) (g:otherRows k b c):otherRows k a c :=
 ⟨g.1.trans h.1,fun j hj=>by rw[←h.2 j hj];have:=g.2 j hj;rw[h.1] at this;exact this⟩
theorem mend_get {α:Type} (xs:List α) (p:Nat) (ys:List α) (n i:Nat) (h:p+min ys.length n≤xs.length) :
  (mend xs p ys n)[i]?=if i<p then xs[i]? else if i<p+min ys.length n then ys[i-p]? else xs[i]?:=by
 unfold mend
 have h1:(xs.take p).length=p:=by rw[List.length_take];omega
 have h2:(ys.take n).length=min ys.length n:=by rw[List.length_take];omega
 by_cases c1:i<p
 ·rw[if_pos c1,List.append_assoc,List.getElem?_append_left (by omega),List.getElem?_take,if_pos c1]
 ·rw[if_neg c1]
  by_cases c2:i<p+min ys.length n
  ·rw[if_pos c2,List.append_assoc,List.getElem?_append_right (by omega),h1,List.getElem?_append_left (by omega),List.getElem?_take,if_pos (by omega)]
  ·rw[if_neg c2,List.getElem?_append_right (by rw[List.length_append];omega),List.length_append,h1,h2,List.getElem?_drop]
   congr 1
   omega
structure Ph (at_:Int) (mem:MemT) (P:tState.den→Prop) (r:Bool×Int×tState.den×MemT):Prop where
 mem:r.2.2.2=mem
 on:r.1=true→r.2.1=at_+1∧List.length r.2.2.1.1=15∧P r.2.2.1
section
variable {k p r0 b:Int} {q:Int} {H:Nat}
end
end Go.Av
end
section
namespace Go.Av
open Go
def qhg:LoopN where
 M:=[3,6,7,8]
 T:=[5,9,10,11,12,13,14,15,16,17,18,19,20,21,22,23]
 D:=[6,7,8]
 ss:=[.osl 0 tItem,.ty (.sl tItem),.ty (.int .i64),.ty (.int .i64)]
 hs:=[]
 es:=[.exit 0]
 σ:=(List (Ty.den tItem))×(Ty.den (.int .i64))
 x0:=fun x _=>(x.1,x.2.2.2)
 put:=fun x _ s=>((s.1,x.2.1,x.2.2.1,s.2),())
 fuel:=fun x _=>List.length x.2.1+1
 turn:=fun x _ s =>
 (.ite (decide (s.2<x.2.2.1))
  (.ite (inRange s.2 (List.length x.2.1))
  (.ite (Nat.ble ((List.length s.1+List.length [List.getD x.2.1 (Int.toNat s.2) (Ty.dflt tItem)])*80) 140737488355328)
   (.ite ((List.getD x.2.1 (Int.toNat s.2) (Ty.dflt tItem)).1 != 1)
   (.ite (Nat.ble ((List.length (s.1++[List.getD x.2.1 (Int.toNat s.2) (Ty.dflt tItem)])+List.length [List.getD x.2.1 (Int.toNat s.2) (Ty.dflt tItem)])*80) 140737488355328)
    (.ret (.on (s.1++[List.getD x.2.1 (Int.toNat s.2) (Ty.dflt tItem)]++[List.getD x.2.1 (Int.toNat s.2) (Ty.dflt tItem)],w64 (s.2+1))))
    .fail)
   (.ret (.on (s.1++[List.getD x.2.1 (Int.toNat s.2) (Ty.dflt tItem)],w64 (s.2+1)))))
   .fail)
  .fail)
  (.ret (.out 0 (s.1,s.2))))
abbrev qjs:List Ty:=[(.sl tItem)]
abbrev qkn:Sh:=Sh.osl 32 tItem
def qk9 (x:dens qjs):PO (Sh.den qkn) :=
 (.opt (LoopN.res qhg ([],x,lenI x,0) ()) fun p0 =>
  (.ret (p0.2.1)))
def allV (l:List tItem.den):List tItem.den:=l.flatMap fun x=>bif x.1 != 1 then[x,x] else[x]
theorem allV_cons (x:tItem.den) (l:List tItem.den):allV (x::l)=(bif x.1 != 1 then[x,x] else[x])++allV l:=List.flatMap_cons
theorem all_from (l:List tItem.den) (hl:l.length<1073741824):∀(k i:Nat),i+k=l.length→∀f,k<f→∀out:List tItem.den,out.length≤2*i →
  runL (qhg.turn ([],l,lenI l,0) ()) f (out,(i:Int))=some (0,(out++allV (l.drop i),(l.length:Int)))
 |0,i,hi,f,hf,out,ho=>by
  obtain⟨f,rfl⟩:∃g,f=g+1:=⟨f-1,by omega⟩
  have hil:i=l.length:=by omega
  subst hil
  refine(runL_out (c:=0) (s':=(out,(l.length:Int))) ?_).trans ?_
  ·exact val_no (dec_false (by show ¬((l.length:Int)<((List.length l:Nat):Int));omega))
  ·rw[List.drop_length]
   simp[allV]
 |k+1,i,hi,f,hf,out,ho=>by
  obtain⟨f,rfl⟩:∃g,f=g+1:=⟨f-1,by omega⟩
  have hlt:i<l.length:=by omega
  have hd:l.drop i=l[i]::l.drop (i+1):=List.drop_eq_getElem_cons hlt
  have hg:List.getD l (Int.toNat (i:Int)) (Ty.dflt tItem)=l[i]:=by rw[Int.toNat_natCast];exact getD_in l _ hlt
  have hw:w64 ((i:Int)+1)=((i+1:Nat):Int):=by rw[w64_id (by omega) (by omega)];push_cast;rfl
  have r1:Nat.ble ((List.length out+List.length [l[i]])*80) 140737488355328=true:=by rw[Nat.ble_eq];simp;omega
  have r2:Nat.ble ((List.length (out++[l[i]])+List.length [l[i]])*80) 140737488355328=true:=by rw[Nat.ble_eq];simp;omega
  have hv:(qhg.turn ([],l,lenI l,0) () (out,(i:Int))).val=some (TL.on (bif l[i].1 != 1 then out++[l[i]]++[l[i]] else out++[l[i]],((i+1:Nat):Int))):=by
   refine(val_yes (dec_true (by show((i:Int)<((List.length l:Nat):Int));omega))).trans ((val_yes (inR hlt)).trans ?_)
   dsimp only
   rw[hg,hw]
   refine(val_yes r1).trans ?_
   cases l[i].1 != 1
   ·rfl
   ·exact(val_yes rfl).trans ((val_yes r2).trans rfl)
  rw[hd]
  refine(runL_on hv).trans ?_
  cases hc:l[i].1 != 1
  ·refine(all_from l hl k (i+1) (by omega) f (by omega) _ (by simp;omega)).trans ?_
   rw[allV_cons,hc,←List.append_assoc]
   rfl
  ·refine(all_from l hl k (i+1) (by omega) f (by omega) _ (by simp;omega)).trans ?_
   rw[allV_cons,hc]
   simp only[cond_true,List.append_assoc,List.cons_append,List.nil_append]
   rfl
theorem qm5 (l:List tItem.den) (hl:l.length<1073741824):(qk9 l).val=some (allV l):=by
 refine(val_opt (r:=_) (all_from l hl l.length 0 (Nat.zero_add _) (l.length+1) (Nat.lt_succ_self _) [] (Nat.zero_le _))).trans ?_
 rw[List.drop_zero,List.nil_append]
 rfl
def qh2 (x:dens qjs):Bool:=decide (List.length x<1073741824)
def qkl (x:dens qjs):Sh.den qkn:=allV x
theorem qmV (x:dens qjs) (h:qh2 x=true):(qk9 x).val=some (qkl x):=qm5 x (of_decide_eq_true h)
end Go.Av
end
section
namespace Go.Av
open Go
def simS (a b:tState.den):Prop:=wordR a.1=wordR b.1∧a.2.2=b.2.2
theorem simS.trans {a b c:tState.den} (h:simS a b) (g:simS b c):simS a c:=⟨h.1.trans g.1,h.2.trans g.2⟩
end Go.Av
end
section
namespace Go.Av
open Go
def repS (s:tState.den) (ρ:Int→Nat):Prop:=List.length s.1=15∧∀k:Int,0≤k→wn (rg s.1 k)=ρ k
def updR (ρ:Int→Nat) (k:Int) (v:Nat):Int→Nat:=fun j=>bif j==k then v else ρ j
def stepR (ρ:Int→Nat):tIns.den→(Int→Nat)
 |(op,rd,rn,rm,ra,imm,_)=>bif op==17 then updR (updR ρ rd (ρ rn*ρ rm % 4294967296)) ra (ρ rn*ρ rm / 4294967296)
  else updR ρ rd (wn (vOf op imm ra (ρ rd) (ρ rn) (ρ rm) 0))
theorem updR_same (ρ:Int→Nat) (k:Int) (v:Nat):updR ρ k v k=v:=by simp[updR]
theorem updR_other (ρ:Int→Nat) {k j:Int} (v:Nat) (h:j≠k):updR ρ k v j=ρ j:=by
 unfold updR
 rw[beq_eq_false_iff_ne.2 h]
 rfl
theorem rep_set {r:List Int} {ρ:Int→Nat} (hl:r.length=15) (h:∀k:Int,0≤k→wn (rg r k)=ρ k) (rd v:Int) (hrd:0≤rd∧rd≤12):(r.set rd.toNat v).length=15∧∀k:Int,0≤k→wn (rg (r.set rd.toNat v) k)=updR ρ rd (wn v) k:=by
 refine⟨by simp[hl],fun k hk=>?_⟩
 rw[rg_set _ _ _ _ hrd hk hl]
 unfold updR
 by_cases e:k=rd
 ·subst e;simp
 ·rw[if_neg e,h k hk,beq_eq_false_iff_ne.2 e]
  rfl
theorem step_makes {s:tState.den} {ρ:Int→Nat} (h:repS s ρ) (op rd rn rm ra imm cond:Int) (w:Bool) (ld:Int) (hck:qd (op,rd,rn,rm,ra,imm,cond,w,())=0) (hmk:makesRd op=true) :
  ∃t:tState.den,qA (s,(op,rd,rn,rm,ra,imm,cond,w,()),ld)=(t,true,()) ∧
   repS t (bif op==17 then updR (updR ρ rd (ρ rn*ρ rm % 4294967296)) ra (ρ rn*ρ rm / 4294967296) else updR ρ rd (wn (vOf op imm ra (ρ rd) (ρ rn) (ρ rm) ld))):=by
 obtain⟨hl,hr⟩:=h
 obtain⟨_,hrd,hrn,hrm,h17,_⟩:=check_bounds hck
 have hop:3≤op∧op≤21:=by
  unfold makesRd at hmk
  simp only[Bool.or_eq_true,Bool.and_eq_true,decide_eq_true_eq,beq_iff_eq] at hmk
  omega
 have h2:op≠2:=by omega
 have b23:(op==23)=false:=beq_eq_false_iff_ne.2 (by omega)
 have b24:(op==24)=false:=beq_eq_false_iff_ne.2 (by omega)
 have b25:(op==25)=false:=beq_eq_false_iff_ne.2 (by omega)
 have hc:(qd (op,rd,rn,rm,ra,imm,cond,w,()) != (0:Int))=false:=by simpa using hck
 have hwl:(wordR s.1).length=15:=by rw[wordR_len,hl]
 have hwr:∀k:Int,0≤k→wn (rg (wordR s.1) k)=ρ k:=fun k hk=>by rw[wordR_reg,wn_wn,hr k hk]
 have ew:∀k:Int,0≤k→rg (wordR s.1) k=(ρ k:Int):=fun k hk=>by rw[wordR_reg,hr k hk]
 refine⟨((regsOf (wordR s.1) op rd rn rm ra imm ld),(wn (wn s.2.1+farV (wState s) op imm cond w):Int),s.2.2),?_,?_⟩
 ·show stepV (qd (op,rd,rn,rm,ra,imm,cond,w,()) != 0) s op rd rn rm ra imm cond w ld=_
  rw[hc,stepV_ok _ _ _ _ _ _ _ _ _ _ h2]
  unfold nextS
  rw[b24,b25]
  show(((makesS (wState s) op rd rn rm ra imm ld).1,_,(makesS (wState s) op rd rn rm ra imm ld).2.2),true,())=_
  unfold makesS
  rw[b23]
  rfl
 ·show List.length (regsOf (wordR s.1) op rd rn rm ra imm ld)=15∧∀k:Int,0≤k→wn (rg (regsOf (wordR s.1) op rd rn rm ra imm ld) k)=_
  unfold regsOf
  by_cases e17:op=17
  ·subst e17
   have hra:=h17 rfl
   obtain⟨q1,q2⟩:=rep_set hwl hwr rd ((wn (rg (wordR s.1) rn)*wn (rg (wordR s.1) rm) % 4294967296:Nat):Int) hrd
   obtain⟨p1,p2⟩:=rep_set q1 q2 ra ((wn (rg (wordR s.1) rn)*wn (rg (wordR s.1) rm) / 4294967296:Nat):Int) ⟨hra.1,hra.2.1⟩
   refine⟨p1,fun k hk=>(p2 k hk).trans ?_⟩
   have hm:=mul_lt (rg (wordR s.1) rn) (rg (wordR s.1) rm)
   rw[wn_nat (Nat.mod_lt _ (by omega)),wn_nat (by omega),hwr rn hrn.1,hwr rm hrm.1]
   rfl
  ·have b17:(op==17)=false:=beq_eq_false_iff_ne.2 e17
   rw[b17,hmk]
   obtain⟨q1,q2⟩:=rep_set hwl hwr rd (vOf op imm ra (rg (wordR s.1) rd) (rg (wordR s.1) rn) (rg (wordR s.1) rm) ld) hrd
   refine⟨q1,fun k hk=>(q2 k hk).trans ?_⟩
   rw[ew rd hrd.1,ew rn hrn.1,ew rm hrm.1]
   rfl
theorem toByte_nat {k:Nat} (h:k<256):((toByte (k:Int)).toNat:Int)=(k:Int):=by
 have e:(UInt8.ofNat k).toNat=k % 256:=rfl
 show(((UInt8.ofNat k).toNat:Nat):Int)=_
 rw[e,Nat.mod_eq_of_lt h]
theorem byte_at (m:Nat) (k:Nat) (hk:k≤24):((toByte (IntKind.u8.wrap (ishr .i64 (m:Int) (k:Int)))).toNat:Int)=((m / 2 ^ k % 256:Nat):Int):=by
 have hs:ishr .i64 (m:Int) (k:Int)=((m / 2 ^ k:Nat):Int):=by
  rw[ishr_i64 _ _ (by omega)]
  push_cast
  rfl
 rw[hs]
 have:IntKind.u8.wrap ((m / 2 ^ k:Nat):Int)=((m / 2 ^ k % 256:Nat):Int):=by
  generalize m / 2 ^ k=q
  show(q:Int) % 256=((q % 256:Nat):Int)
  omega
 rw[this]
 exact toByte_nat (Nat.mod_lt _ (by omega))
theorem bytes4_eq (v:Int):bytes4 v=[((wn v % 256:Nat):Int),((wn v / 256 % 256:Nat):Int),((wn v / 65536 % 256:Nat):Int),((wn v / 16777216 % 256:Nat):Int)]:=by
 show[((toByte (IntKind.u8.wrap (ishr .i64 (wn v:Int) ((0:Nat):Int)))).toNat:Int),((toByte (IntKind.u8.wrap (ishr .i64 (wn v:Int) ((8:Nat):Int)))).toNat:Int),
  ((toByte (IntKind.u8.wrap (ishr .i64 (wn v:Int) ((16:Nat):Int)))).toNat:Int),((toByte (IntKind.u8.wrap (ishr .i64 (wn v:Int) ((24:Nat):Int)))).toNat:Int)]=_
 rw[byte_at _ 0 (by omega),byte_at _ 8 (by omega),byte_at _ 16 (by omega),byte_at _ 24 (by omega),show(2:Nat) ^ 0=1 from rfl,show(2:Nat) ^ 8=256 from rfl,show(2:Nat) ^ 16=65536 from rfl,show(2:Nat) ^ 24=16777216 from rfl,Nat.div_one]
theorem leV_bytes (l:List Int) (h:∀b∈l,0≤b∧b<256) (hl:l.length=4):bytes4 (leV l)=l:=by
 obtain⟨a,b,c,d,rfl⟩:∃a b c d,l=[a,b,c,d]:=by
  match l,hl with
  |[a,b,c,d],_=>exact⟨a,b,c,d,rfl⟩
 have ha:=h a (by simp)
 have hb:=h b (by simp)
 have hc:=h c (by simp)
 have hd:=h d (by simp)
 rw[bytes4_eq]
 have e:wn (leV [a,b,c,d])=(a+256*(b+256*(c+256*d))).toNat:=by
  unfold leV leV leV leV leV wn
  omega
 rw[e]
 simp only[List.cons.injEq,and_true]
 omega
theorem leV_word (v:Int):leV ((bytes4 v).take 4)=(wn v:Int):=by
 have h:=wn_lt v
 rw[bytes4_eq]
 show((wn v % 256:Nat):Int)+256*(((wn v / 256 % 256:Nat):Int)+256*(((wn v / 65536 % 256:Nat):Int)+256*(((wn v / 16777216 % 256:Nat):Int)+256*0)))=_
 omega
theorem mend_read {α:Type} (xs:List α) (p:Nat) (ys:List α) (n:Nat) (hn:n≤ys.length) (h:p+n≤xs.length):((mend xs p ys n).drop p).take n=ys.take n:=by
 unfold mend
 have h1:(xs.take p).length=p:=by rw[List.length_take];omega
 have h2:(ys.take n).length=n:=by rw[List.length_take];omega
 rw[List.append_assoc,List.drop_append,List.drop_of_length_le (by omega),h1,Nat.sub_self,List.drop_zero,List.nil_append,List.take_append_of_le_length (by omega),List.take_of_length_le (by omega)]
end Go.Av
end
section
namespace Go.Av
open Go
def inW (b n a:Nat):Bool:=decide (b≤a∧a+4≤b+n)
def regW (o r a:Nat):Option Nat :=
 bif a % 4 != 0 then none else bif inW 537001984 o a then some 2 else bif inW 537133056 r a then some 3 else bif inW 537395200 r a then some 4
 else bif inW 537919488 4 a then some 5 else bif inW 538968064 4 a then some 6 else none
def regR (o r n a:Nat):Option Nat:=bif a % 4 != 0 then none else bif decide (a+4≤n) then some 0 else regW o r a
structure SzOk (o r n:Nat):Prop where
 out:o≤65536
 rail:r≤65536
 flash:n≤262144
abbrev rgsW (o r n:Nat):List (Int×Int×Bool×Unit):=regsX ((0:Int),(o:Int),(r:Int),()) (n:Int)
theorem regW_flash {o r a:Nat} (h:a+4≤262144):regW o r a=none:=by
 have h1:∀b n,537001984≤b→inW b n a=false:=fun b n hb=>decide_eq_false (by omega)
 unfold regW
 rw[h1 _ _ (by omega),h1 _ _ (by omega),h1 _ _ (by omega),h1 _ _ (by omega),h1 _ _ (by omega)]
 cases (a % 4 != 0)<;>rfl
theorem has_w (b n:Nat) (w:Bool) (a:Nat):hasB ((b:Int),(n:Int),w,()) (a:Int) 4=inW b n a:=by
 unfold hasB inW
 exact decide_eq_decide.2 (by dsimp only;omega)
theorem tmod4 (a:Nat):((a:Int).tmod 4 != 0)=(a % 4 != 0):=by
 have e:(a:Int).tmod 4=((a % 4:Nat):Int):=by
  rw[Int.tmod_eq_emod_of_nonneg (by omega)]
  omega
 rw[e]
 generalize a % 4=k
 cases hk:(k != 0)
 ·have:k=0:=by simpa using hk
  subst this
  rfl
 ·have:k≠0:=by simpa using hk
  have h2:(k:Int)≠0:=by omega
  simpa using h2
theorem find_word {o r n:Nat} (hs:SzOk o r n) (a:Nat) (w:Bool):findM (rgsW o r n) (a:Int) 4 w=(match (bif w then regW o r a else regR o r n a) with
  |some j=>((j:Int),0,())
  |none=>(0,8,())):=by
 have h0:hasB ((0:Int),(n:Int),false,()) (a:Int) 4=decide (a+4≤n):=by
  have:=has_w 0 n false a
  refine Eq.trans this ?_
  unfold inW
  exact decide_eq_decide.2 (by omega)
 have h1:hasB ((536936448:Int),(0:Int),true,()) (a:Int) 4=false:=by
  have:=has_w 536936448 0 true a
  refine Eq.trans this ?_
  exact decide_eq_false (by omega)
 have h2:=has_w 537001984 o true a
 have h3:=has_w 537133056 r true a
 have h4:=has_w 537395200 r true a
 have h5:=has_w 537919488 4 true a
 have h6:=has_w 538968064 4 true a
 have hfl:(decide (a+4≤n))=true→regW o r a=none:=fun h=>regW_flash (by have:=of_decide_eq_true h;have:=hs.flash;omega)
 have ex:findX (a:Int) 4 w (rgsW o r n)=bif decide (a+4≤n) then(bif w then none else some 0) else
   bif inW 537001984 o a then some 2 else bif inW 537133056 r a then some 3 else bif inW 537395200 r a then some 4
   else bif inW 537919488 4 a then some 5 else bif inW 538968064 4 a then some 6 else none:=by
  unfold rgsW regsX
  simp only[findX]
  rw[h0,h1]
  have g2:hasB ((537001984:Int),(o:Int),true,()) (a:Int) 4=inW 537001984 o a:=h2
  have g3:hasB ((537133056:Int),(r:Int),true,()) (a:Int) 4=inW 537133056 r a:=h3
  have g4:hasB ((537395200:Int),(r:Int),true,()) (a:Int) 4=inW 537395200 r a:=h4
  have g5:hasB ((537919488:Int),(4:Int),true,()) (a:Int) 4=inW 537919488 4 a:=h5
  have g6:hasB ((538968064:Int),(4:Int),true,()) (a:Int) 4=inW 538968064 4 a:=h6
  rw[g2,g3,g4,g5,g6]
  cases decide (a+4≤n)<;>cases inW 537001984 o a<;>cases inW 537133056 r a<;>cases inW 537395200 r a<;>cases inW 537919488 4 a<;>cases inW 538968064 4 a<;>cases w<;>rfl
 unfold findM
 rw[tmod4,ex]
 unfold regR
 have en:((4:Int) != 1&&(4:Int) != 4)=false:=rfl
 rw[en]
 cases hm:(a % 4 != 0)
 ·cases hd:decide (a+4≤n)
  ·unfold regW
   rw[hm]
   cases inW 537001984 o a<;>cases inW 537133056 r a<;>cases inW 537395200 r a<;>cases inW 537919488 4 a<;>cases inW 538968064 4 a<;>cases w<;>rfl
  ·cases w
   ·rfl
   ·simp only[cond_true,cond_false]
    rw[hfl hd]
 ·have:regW o r a=none:=by unfold regW;rw[hm];rfl
  cases w
  ·rfl
  ·simp only[cond_true,cond_false]
   rw[this]
theorem regR_regW {o r n a j:Nat} (hs:SzOk o r n) (h:regW o r a=some j):regR o r n a=some j:=by
 unfold regR
 cases hd:decide (a+4≤n)
 ·cases hm:(a % 4 != 0)
  ·exact h
  ·unfold regW at h
   rw[hm] at h
   cases h
 ·have:=regW_flash (o:=o) (r:=r) (a:=a) (by have:=of_decide_eq_true hd;have:=hs.flash;omega)
  rw[this] at h
  cases h
theorem regR_al {o r n a j:Nat} (h:regR o r n a=some j):a % 4=0:=by
 unfold regR at h
 cases hm:(a % 4 != 0)
 ·simpa using hm
 ·rw[hm] at h
  cases h
theorem regR_find {o r n a j:Nat} (hs:SzOk o r n) (h:regR o r n a=some j):findX (a:Int) 4 false (rgsW o r n)=some j:=by
 have:=find_word hs a false
 simp only[cond_false] at this
 rw[h] at this
 rcases findM_cases (rgsW o r n) (a:Int) 4 false with⟨e,he,h2⟩ |⟨k,hk,_,_,h2⟩
 ·rw[h2] at this
  exact absurd (congrArg (fun p=>p.2.1) this) he
 ·rw[h2] at this
  have e:(k:Int)=(j:Int):=congrArg (fun p=>p.1) this
  rw[hk]
  congr 1
  omega
theorem wins_sepW:∀(l:List (Int×Int×Bool×Unit)) (o j k:Nat),j<k→k<l.length→((winsOf o l).getD j (0,0)).1+(l.getD j rDef).2.1.toNat≤((winsOf o l).getD k (0,0)).1:=by
 have ge:∀(l:List (Int×Int×Bool×Unit)) (o j:Nat),j<l.length→o≤((winsOf o l).getD j (0,0)).1:=by
  intro l
  induction l with
  |nil=>intro o j h;cases h
  |cons r l ih =>
   intro o j h
   cases j with
   |zero=>exact Nat.le_refl _
   |succ j =>
    have:=ih (o+r.2.1.toNat) j (by simpa using h)
    show o≤((winsOf (o+r.2.1.toNat) l).getD j (0,0)).1
    omega
 intro l
 induction l with
 |nil=>intro o j k _ h;cases h
 |cons r l ih =>
  intro o j k hjk h
  cases k with
  |zero=>cases hjk
  |succ k =>
   cases j with
   |zero=>exact ge l (o+r.2.1.toNat) k (by simpa using h)
   |succ j=>exact ih (o+r.2.1.toNat) j k (by omega) (by simpa using h)
theorem mend_far {α:Type} (xs:List α) (p:Nat) (ys:List α) (q:Nat) (hy:ys.length=4) (hp:p+4≤xs.length) (h:q+4≤p∨p+4≤q):((mend xs p ys 4).drop q).take 4=(xs.drop q).take 4:=by
 have hm:min ys.length 4=4:=by omega
 apply List.ext_getElem?
 intro i
 rw[List.getElem?_take,List.getElem?_take]
 by_cases hi:i<4
 ·rw[if_pos hi,if_pos hi,List.getElem?_drop,List.getElem?_drop,mend_get _ _ _ _ _ (by rw[hm];exact hp),hm]
  by_cases c1:q+i<p
  ·rw[if_pos c1]
  ·rw[if_neg c1,if_neg (by omega)]
 ·rw[if_neg hi,if_neg hi]
def updW (W:Nat→Nat) (a v:Nat):Nat→Nat:=fun b=>bif b==a then v else W b
theorem updW_same (W:Nat→Nat) (a v:Nat):updW W a v a=v:=by simp[updW]
theorem updW_other (W:Nat→Nat) {a b:Nat} (v:Nat) (h:b≠a):updW W a v b=W b:=by
 unfold updW
 rw[beq_eq_false_iff_ne.2 h]
 rfl
structure MW (o r n:Nat) (y:MemT) (W:Nat→Nat):Prop where
 wf:MemWf y
 regs:y.1.1=rgsW o r n
 wins:y.1.2.1=winsOf 0 (rgsW o r n)
 word:∀a j,regR o r n a=some j→leV ((y.2.drop (posM y j (a:Int))).take 4)=(W a:Int)
theorem mw_load {o r n:Nat} (hs:SzOk o r n) {y:MemT} {W:Nat→Nat} (h:MW o r n y W) (a:Nat):loadM y (a:Int) 4=bif (regR o r n a).isSome then((W a:Int),0,()) else(0,8,()):=by
 unfold loadM
 rw[h.regs,find_word hs a false]
 simp only[cond_false]
 cases hr:regR o r n a with
 |none=>rfl
 |some j =>
  have:=h.word a j hr
  show(leV ((y.2.drop (posM y ((j:Int)).toNat (a:Int))).take ((4:Int)).toNat),(0:Int),())=((W a:Int),0,())
  rw[Int.toNat_natCast]
  exact congrArg (fun v:Int=>(v,(0:Int),())) this
theorem leV_lt:∀(l:List Int),(∀b∈l,0≤b∧b<256)→l.length=4→0≤leV l∧leV l<4294967296
 |[a,b,c,d],h,_=>by
  have h1:=h a (by simp)
  have h2:=h b (by simp)
  have h3:=h c (by simp)
  have h4:=h d (by simp)
  simp only[leV]
  omega
theorem mw_lt {o r n:Nat} (hs:SzOk o r n) {y:MemT} {W:Nat→Nat} (h:MW o r n y W) {a:Nat} (ha:(regR o r n a).isSome=true):W a<4294967296:=by
 obtain⟨j,hj⟩:=Option.isSome_iff_exists.1 ha
 have hf:findX (a:Int) 4 false y.1.1=some j:=by rw[h.regs];exact regR_find hs hj
 obtain⟨_,_,_,_,q5,_,_⟩:=acc_ok h.wf hf (.inr rfl)
 have:=leV_lt ((y.2.drop (posM y j (a:Int))).take 4) (fun b hb=>h.wf.bytes b (List.mem_of_mem_drop (List.mem_of_mem_take hb))) (by
  rw[List.length_take,List.length_drop]
  have:posM y j (a:Int)+4≤y.2.length:=q5
  omega)
 rw[h.word a j hj] at this
 omega
theorem mw_store {o r n:Nat} (hs:SzOk o r n) {y:MemT} {W:Nat→Nat} (h:MW o r n y W) (a v:Nat) :
  ((regW o r a).isSome=true→(storeM y (a:Int) 4 (v:Int)).1=0∧MW o r n (storeM y (a:Int) 4 (v:Int)).2 (updW W a (wn v))) ∧
  ((regW o r a).isSome=false→(storeM y (a:Int) 4 (v:Int)).1=8∧(storeM y (a:Int) 4 (v:Int)).2=y):=by
 have hfw:=find_word hs a true
 simp only[cond_true] at hfw
 constructor
 ·intro ha
  obtain⟨j,hj⟩:=Option.isSome_iff_exists.1 ha
  rw[hj] at hfw
  have hst:storeM y (a:Int) 4 (v:Int)=(0,(y.1,mend y.2 (posM y j (a:Int)) (bytes4 (v:Int)) 4)):=by
   unfold storeM
   rw[h.regs,hfw]
   rfl
  rw[hst]
  have hwf:=(store_wf h.wf (a:Int) 4 (v:Int)).1
  rw[hst] at hwf
  refine⟨rfl,hwf,h.regs,h.wins,?_⟩
  have hjR:=regR_regW (n:=n) hs hj
  have hfa:findX (a:Int) 4 false y.1.1=some j:=by rw[h.regs];exact regR_find hs hjR
  obtain⟨a1,a2,a3,a4,a5,_,_⟩:=acc_ok h.wf hfa (.inr rfl)
  have a5:posM y j (a:Int)+4≤y.2.length:=a5
  have hal:=regR_al hjR
  intro b k hk
  have hbl:=regR_al hk
  have hfb:findX (b:Int) 4 false y.1.1=some k:=by rw[h.regs];exact regR_find hs hk
  obtain⟨b1,b2,b3,b4,b5,_,_⟩:=acc_ok h.wf hfb (.inr rfl)
  show leV (((mend y.2 (posM y j (a:Int)) (bytes4 (v:Int)) 4).drop (posM y k (b:Int))).take 4)=_
  by_cases hab:b=a
  ·subst hab
   rw[hjR] at hk
   cases hk
   rw[updW_same,mend_read _ _ _ _ (by rw[bytes4_length];exact Nat.le_refl _) a5,leV_word]
  ·rw[updW_other _ _ hab,mend_far _ _ _ _ (bytes4_length _) a5 ?_]
   ·exact h.word b k hk
   ·obtain⟨w1,_⟩:=h.wf.wins j a1
    obtain⟨w2,_⟩:=h.wf.wins k b1
    unfold posM
    rcases Nat.lt_trichotomy j k with hjk |hjk |hjk
    ·have:=wins_sepW y.1.1 0 j k hjk b1
     rw[h.regs,←h.wins,←h.regs] at this
     generalize (y.1.2.1.getD j (0,0))=wj at *
     generalize (y.1.2.1.getD k (0,0))=wk at *
     generalize (y.1.1.getD j rDef)=rj at *
     generalize (y.1.1.getD k rDef)=rk at *
     omega
    ·subst hjk
     generalize (y.1.2.1.getD j (0,0))=wj at *
     generalize (y.1.1.getD j rDef)=rj at *
     omega
    ·have:=wins_sepW y.1.1 0 k j hjk a1
     rw[h.regs,←h.wins,←h.regs] at this
     generalize (y.1.2.1.getD j (0,0))=wj at *
     generalize (y.1.2.1.getD k (0,0))=wk at *
     generalize (y.1.1.getD j rDef)=rj at *
     generalize (y.1.1.getD k rDef)=rk at *
     omega
 ·intro ha
  cases hj:regW o r a with
  |some j=>rw[hj] at ha;cases ha
  |none =>
   rw[hj] at hfw
   have hst:storeM y (a:Int) 4 (v:Int)=(8,y):=by
    unfold storeM
    rw[h.regs,hfw]
    rfl
   rw[hst]
   exact⟨rfl,rfl⟩
end Go.Av
end
