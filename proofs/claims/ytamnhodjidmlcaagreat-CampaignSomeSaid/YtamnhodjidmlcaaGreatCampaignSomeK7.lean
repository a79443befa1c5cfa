/- Texts of the proof, one behind the other. -/
import Derived.Test.YtamnhodjidmlcaaGreatCampaignSomeK6
section
namespace Go.Av
open Go
def Rd.num (s:Rd) (op:Int) (w:Bool) (k:Nat):qcb.σ:=(false,bN s.x,bN s.y,bN s.t,(k:Int),zI,(op,H s.d,H s.n,H s.m,H s.a,((qbU s.imm:Nat):Int),H s.c,w,()),H s.w)
def fx (c:UInt8) (b:Bool):Bool:=bif c==48 then b else c==49&&!b
structure Rd.Ok (s:Rd) (k:Nat):Prop where
 d:s.d.length≤k
 n:s.n.length≤k
 m:s.m.length≤k
 a:s.a.length≤k
 c:s.c.length≤k
 w:s.w.length≤k
 imm:qbU s.imm≤k*16777216
theorem qvq {l:List Bool} (h:l.length≤40) (b:Bool):w64 (w64 (2*H l)+bN b)=H (l++[b]):=by
 have h1:=qO l
 have h2:=qbO h
 have p:(2 ^ 40:Nat)=1099511627776:=by decide
 rw[p] at h2
 have e:H (l++[b])=2*H l+bN b:=by
  unfold H bN
  rw[qpZ]
  have:hb [b] 0=b.toNat:=by cases b<;>rfl
  rw[this]
  rw[List.length_singleton,Nat.pow_one]
  omega
 have hb:0≤bN b∧bN b≤1:=by cases b<;>exact⟨by decide,by decide⟩
 rw[e,qt (n:=2*H l) (by omega) (by omega),qt (by omega) (by omega)]
theorem qxN {s:Rd} {k:Nat} (h:s.Ok k) (c:UInt8) (b:Bool):(s.step c b).Ok (k+1):=by
 have one:∀(z:Bool) (l:List Bool),l.length≤k→(bif z then l++[b] else l).length≤k+1:=by
  intro z l hl
  cases z
  ·exact Nat.le_succ_of_le hl
  ·show(l++[b]).length≤k+1
   rw[List.length_append,List.length_singleton]
   omega
 refine⟨one _ _ h.d,one _ _ h.n,one _ _ h.m,one _ _ h.a,one _ _ h.c,one _ _ h.w,?_⟩
 show qbU (bif qyg c then s.imm++[(c.toNat-65,b)] else s.imm)≤(k+1)*16777216
 have hi:=h.imm
 rw[Nat.succ_mul]
 generalize k*16777216=K at hi ⊢
 cases hc:qyg c
 ·show qbU s.imm≤K+16777216
  omega
 ·show qbU (s.imm++[(c.toNat-65,b)])≤K+16777216
  rw[qup]
  unfold qyg at hc
  rw[Bool.and_eq_true,Nat.ble_eq,Nat.ble_eq] at hc
  have hp:2 ^ (c.toNat-65)≤2 ^ 24:=qeU (by omega)
  have h1:b.toNat*2 ^ (c.toNat-65)≤1*2 ^ 24:=Nat.mul_le_mul (by cases b<;>decide) hp
  have:1*2 ^ 24=16777216:=rfl
  omega
theorem qOJ (b:Bool):w64 (IntKind.wrap IntKind.u8 (u8I (bif b then 49 else 48)-48))=bN b:=by cases b<;>rfl
theorem qRY (l:List Bool) (k:Nat) (h:k<l.length):(tx l).getD k 0=(bif l[k] then 49 else 48):=by
 unfold tx
 rw[List.getD_eq_getElem?_getD,List.getElem?_map,List.getElem?_eq_getElem h]
 rfl
section
variable (op:Int) (w:Bool) (p:List UInt8) (l:List Bool) (hl:p.length=l.length) (h32:p.length≤32) (hrow:rowOf p=true)
include hl h32 hrow
theorem qMR (s:Rd) (k:Nat) (hk:k<p.length) (ho:s.Ok k):∃st:qcb.σ,st.1=false∧st.2.2.2.2.2.1=zI ∧
  (qcb.turn (op,w,tx l,(),false,p,(),(),0,0,0,0) (zI,(op,0,0,0,0,0,0,w,()),0) (s.num op w k)).val=(bif fx p[k] l[k] then some (TL.out 1 st) else some (TL.on ((s.step p[k] l[k]).num op w (k+1)))):=by
 have hk2:k<l.length:=by omega
 have hk3:k<(tx l).length:=by rw[qu3];exact hk2
 have hw:w64 ((k:Int)+1)=((k+1:Nat):Int):=by rw[qt (by omega) (by omega)];omega
 have hlet:qtA (u8I p[k])=true:=List.all_eq_true.1 hrow _ (List.getElem_mem hk)
 have hd:=qvq (l:=s.d) (Nat.le_trans ho.d (by omega)) l[k]
 have hn:=qvq (l:=s.n) (Nat.le_trans ho.n (by omega)) l[k]
 have hm:=qvq (l:=s.m) (Nat.le_trans ho.m (by omega)) l[k]
 have ha:=qvq (l:=s.a) (Nat.le_trans ho.a (by omega)) l[k]
 have hc:=qvq (l:=s.c) (Nat.le_trans ho.c (by omega)) l[k]
 have hww:=qvq (l:=s.w) (Nat.le_trans ho.w (by omega)) l[k]
 have hi:=ho.imm
 refine⟨(false,bN s.x,bN s.y,bN s.t,(k:Int),zI,(op,H s.d,H s.n,H s.m,H s.a,((qbU s.imm:Nat):Int),H s.c,w,()),H s.w),rfl,rfl,?_⟩
 unfold Rd.num
 dsimp only[qcb,PO.val]
 rw[qK (p:=(k:Int)<qh p) (by simp only[qh];omega),inR hk,inR hk3,qhE,qhE,qgY p _ hk,qRY l k hk2,hw,qOJ]
 generalize l[k]=b at hd hn hm ha hc hww ⊢
 generalize p[k]=c at hlet ⊢
 have e8:∀v:UInt8,c≠v→(c==v)=false:=fun v h=>beq_eq_false_iff_ne.2 h
 have key:c=48∨c=49∨c=100∨c=110∨c=109∨c=97∨c=99∨c=119∨c=120∨c=121∨(65≤c.toNat∧c.toNat≤89):=by
  have t:∀v:UInt8,(u8I c==u8I v)=true→c=v:=fun v h=>by
   rw[qO9,beq_iff_eq] at h;exact h
  simp only[qtA,Bool.or_eq_true,Bool.and_eq_true,decide_eq_true_eq] at hlet
  rcases hlet with h |h |h |h |h |h |h |h |h |h |⟨h1,h2⟩
  ·exact .inl (t 48 h)
  ·exact .inr (.inl (t 49 h))
  ·exact .inr (.inr (.inl (t 100 h)))
  ·exact .inr (.inr (.inr (.inl (t 110 h))))
  ·exact .inr (.inr (.inr (.inr (.inl (t 109 h)))))
  ·exact .inr (.inr (.inr (.inr (.inr (.inl (t 97 h))))))
  ·exact .inr (.inr (.inr (.inr (.inr (.inr (.inl (t 99 h)))))))
  ·exact .inr (.inr (.inr (.inr (.inr (.inr (.inr (.inl (t 119 h))))))))
  ·exact .inr (.inr (.inr (.inr (.inr (.inr (.inr (.inr (.inl (t 120 h)))))))))
  ·exact .inr (.inr (.inr (.inr (.inr (.inr (.inr (.inr (.inr (.inl (t 121 h))))))))))
  ·exact .inr (.inr (.inr (.inr (.inr (.inr (.inr (.inr (.inr (.inr ⟨by unfold u8I at h1;omega,by unfold u8I at h2;omega⟩)))))))))
 rcases key with rfl |rfl |rfl |rfl |rfl |rfl |rfl |rfl |rfl |rfl |⟨h1,h2⟩
 ·cases b<;>rfl
 ·cases b<;>rfl
 ·rw[hd];rfl
 ·rw[hn];rfl
 ·rw[hm];rfl
 ·rw[ha];rfl
 ·rw[hc];rfl
 ·rw[hww];rfl
 ·rfl
 ·rfl
 ·have f:∀v:Int,v<65∨89<v→(u8I c==v)=false:=fun v h=>by
   rw[beq_eq_false_iff_ne];unfold u8I;omega
  have g:∀v:UInt8,v.toNat<65∨89<v.toNat→(c==v)=false:=fun v h=>by
   rw[beq_eq_false_iff_ne];rintro rfl;omega
  have hbig:qyg c=true:=by unfold qyg;rw[Bool.and_eq_true,Nat.ble_eq,Nat.ble_eq];exact⟨h1,h2⟩
  have hsub:w64 (IntKind.wrap IntKind.u8 (u8I c-65))=((c.toNat-65:Nat):Int):=by
   have:IntKind.wrap IntKind.u8 (u8I c-65)=((c.toNat-65:Nat):Int):=by
    show(u8I c-65) % 256=_
    unfold u8I
    omega
   rw[this,qt (by omega) (by omega)]
  have hpow:qck ((c.toNat-65:Nat):Int)=true:=by
   simp only[qck,Bool.and_eq_true,decide_eq_true_eq]
   exact⟨by show(0:Int)≤((c.toNat-65:Nat):Int);omega,by show((c.toNat-65:Nat):Int)≤62;omega⟩
  have hpv:qZ ((c.toNat-65:Nat):Int)=((2 ^ (c.toNat-65):Nat):Int):=by
   show((2 ^ (((c.toNat-65:Nat):Int)).toNat:Nat):Int)=_
   rw[Int.toNat_natCast]
  have hp:2 ^ (c.toNat-65)≤2 ^ 24:=qeU (by omega)
  have hsum:w64 (((qbU s.imm:Nat):Int)+w64 (bN b*((2 ^ (c.toNat-65):Nat):Int)))=((qbU (s.imm++[(c.toNat-65,b)]):Nat):Int):=by
   rw[qup]
   have e:bN b*((2 ^ (c.toNat-65):Nat):Int)=((b.toNat*2 ^ (c.toNat-65):Nat):Int):=by unfold bN;rw[Int.natCast_mul]
   have h3:b.toNat*2 ^ (c.toNat-65)≤1*2 ^ 24:=Nat.mul_le_mul (by cases b<;>decide) hp
   have h4:1*2 ^ 24=16777216:=rfl
   rw[e]
   generalize b.toNat*2 ^ (c.toNat-65)=q at *
   rw[qt (n:=(q:Int)) (by omega) (by omega),qt (by omega) (by omega)]
   omega
  have hb89:(u8I c==89)=(c==89):=qO9 c 89
  rw[f 48 (by omega),f 49 (by omega),f 100 (by omega),f 110 (by omega),f 109 (by omega),f 97 (by omega),f 99 (by omega),f 119 (by omega),f 120 (by omega),f 121 (by omega),hsub,hpow,hpv,hb89]
  unfold fx Rd.step
  rw[g 48 (by decide),g 49 (by decide),g 120 (by decide),g 121 (by decide),g 100 (by decide),g 110 (by decide),g 109 (by decide),g 97 (by decide),g 99 (by decide),g 119 (by decide),hbig]
  dsimp only[cond_true,cond_false,Bool.and_true,Bool.true_and,Bool.false_and]
  rw[hsum]
  cases c==89<;>rfl
theorem qHu:∀(m k:Nat) (s:Rd),k+m=p.length→s.Ok k→∀f,m<f →
  ∃st:qcb.σ,qcF (qcb.turn (op,w,tx l,(),false,p,(),(),0,0,0,0) (zI,(op,0,0,0,0,0,0,w,()),0)) f (s.num op w k)=some (bif ((p.drop k).zip (l.drop k)).any (fun q=>fx q.1 q.2) then(1,st) else(0,(((p.drop k).zip (l.drop k)).foldl (fun s q=>s.step q.1 q.2) s).num op w p.length))∧st.1=false∧st.2.2.2.2.2.1=zI
 |0,k,s,h,ho,f,hf=>by
  obtain⟨f,rfl⟩:∃g,f=g+1:=⟨f-1,by omega⟩
  refine⟨s.num op w k,?_,rfl,rfl⟩
  rw[List.drop_of_length_le (by omega),List.drop_of_length_le (by omega)]
  refine(qbg (c:=0) (s':=s.num op w k) ?_).trans (by rw[show k=p.length by omega];rfl)
  unfold Rd.num
  dsimp only[qcb,PO.val]
  rw[qW (p:=(k:Int)<qh p) (by simp only[qh];omega)]
  rfl
 |m+1,k,s,h,ho,f,hf=>by
  obtain⟨f,rfl⟩:∃g,f=g+1:=⟨f-1,by omega⟩
  have hk:k<p.length:=by omega
  obtain⟨st,s1,s2,e⟩:=qMR op w p l hl h32 hrow s k hk ho
  rw[List.drop_eq_getElem_cons hk,List.drop_eq_getElem_cons (show k<l.length by omega),List.zip_cons_cons,List.any_cons,List.foldl_cons]
  cases hfx:fx p[k] l[k]
  ·rw[hfx] at e
   obtain⟨st2,h2,h3,h4⟩:=qHu m (k+1) (s.step p[k] l[k]) (by omega) (qxN ho _ _) f (by omega)
   exact⟨st2,(qcx e).trans h2,h3,h4⟩
  ·rw[hfx] at e
   exact⟨st,qbg e,s1,s2⟩
end
end Go.Av
namespace Go.Av
open Go
theorem qQK (op:Int) (w:Bool):rowOf (qb (op,w))=true∧(qb (op,w)).length≤32:=by
 rcases qgO op with rfl |rfl |rfl |rfl |rfl |rfl |rfl |rfl |rfl |rfl |rfl |rfl |rfl |rfl |rfl |rfl |rfl |rfl |rfl |rfl |rfl |rfl |rfl |rfl |rfl |hop
 case inr.inr.inr.inr.inr.inr.inr.inr.inr.inr.inr.inr.inr.inr.inr.inr.inr.inr.inr.inr.inr.inr.inr.inr.inr =>
  rw[qr2 hop]
  exact⟨rfl,Nat.zero_le _⟩
 all_goals cases w<;>exact⟨rfl,Nat.le_of_ble_eq_true rfl⟩
def qes (op:Int) (w:Bool) (l:List Bool):Bool:=((qb (op,w)).zip l).any fun q=>fx q.1 q.2
theorem qGK {z:Int} {n:Nat} (hn:n≤24) (h1:-4294967296≤z) (h2:z<4294967296):qb3 (z,(n:Int))=true:=by
 show(decide ((0:Int)≤(n:Int))&&(decide ((n:Int)≤24)&&(decide ((-4294967296:Int)≤z)&&decide (z<4294967296))))=true
 rw[qK (by omega),qK (by omega),qK h1,qK h2]
 rfl
theorem qKL:∀(q:List (UInt8×Bool)) (s:Rd) (k:Nat),s.Ok k→(q.foldl (fun s q=>s.step q.1 q.2) s).Ok (k+q.length)
 |[],_,_,h=>h
 |a::q,s,k,h=>by
  have:=qKL q (s.step a.1 a.2) (k+1) (qxN h _ _)
  rw[List.length_cons,show k+(q.length+1)=k+1+q.length by omega]
  exact this
theorem qRf (s:Rd) (himm:qbU s.imm≤536870912):qb3 (w64 (w64 (((qbU s.imm:Nat):Int)+w64 (Int.tmod (w64 (w64 (bN s.x+bN s.t)+1)) 2*qZ 23))+w64 (Int.tmod (w64 (w64 (bN s.y+bN s.t)+1)) 2*qZ 22)),24)=true:=by
 have p1:∀a b:Bool,w64 (Int.tmod (w64 (w64 (bN a+bN b)+1)) 2*qZ 23)=0∨w64 (Int.tmod (w64 (w64 (bN a+bN b)+1)) 2*qZ 23)=8388608:=by
  intro a b
  cases a<;>cases b<;>first|exact .inl rfl |exact .inr rfl
 have p2:∀a b:Bool,w64 (Int.tmod (w64 (w64 (bN a+bN b)+1)) 2*qZ 22)=0∨w64 (Int.tmod (w64 (w64 (bN a+bN b)+1)) 2*qZ 22)=4194304:=by
  intro a b
  cases a<;>cases b<;>first|exact .inl rfl |exact .inr rfl
 have q1:=p1 s.x s.t
 have q2:=p2 s.y s.t
 generalize w64 (Int.tmod (w64 (w64 (bN s.x+bN s.t)+1)) 2*qZ 23)=u at *
 generalize w64 (Int.tmod (w64 (w64 (bN s.y+bN s.t)+1)) 2*qZ 22)=v at *
 rw[qt (n:=((qbU s.imm:Nat):Int)+u) (by omega) (by omega),qt (n:=((qbU s.imm:Nat):Int)+u+v) (by omega) (by omega)]
 exact qGK (n:=24) (by omega) (by omega) (by omega)
theorem qwW (op:Int) (w:Bool) (l:List Bool) (hlen:(qb (op,w)).length=l.length) (hne:qb (op,w)≠[]) :
  (qdE (op,w,tx l)).val=some (bif qes op w l then(zI,false,()) else(qF op w l,qo (qF op w l)==0,())):=by
 obtain⟨hrow,h32⟩:=qQK op w
 obtain⟨st,h1,h2,h3⟩:=qHu op w (qb (op,w)) l hlen h32 hrow (qb (op,w)).length 0 Rd.zero (by omega) ⟨Nat.zero_le _,Nat.zero_le _,Nat.zero_le _,Nat.zero_le _,Nat.zero_le _,Nat.zero_le _,Nat.zero_le _⟩ 40 (by omega)
 have hok:=qKL ((qb (op,w)).zip l) Rd.zero 0 ⟨Nat.zero_le _,Nat.zero_le _,Nat.zero_le _,Nat.zero_le _,Nat.zero_le _,Nat.zero_le _,Nat.zero_le _⟩
 rw[List.drop_zero,List.drop_zero] at h1
 have himm:=hok.imm
 rw[Nat.zero_add,List.length_zip] at himm
 have h1:LoopN.res qcb (op,w,tx l,(),false,qb (op,w),(),(),0,0,0,0) (zI,(op,0,0,0,0,0,0,w,()),0)=some (bif qes op w l then(1,st) else(0,(qxM (qb (op,w)) l).num op w (qb (op,w)).length)):=h1
 have himm:qbU (qxM (qb (op,w)) l).imm≤536870912:=by
  have hm:min (qb (op,w)).length l.length≤32:=Nat.le_trans (Nat.min_le_left ..) h32
  unfold qxM
  generalize qbU _=I at himm ⊢
  generalize min (qb (op,w)).length l.length=M at *
  omega
 have c1:(qh (qb (op,w)) != qh (tx l)||qb (op,w)==[])=false:=by
  rw[Bool.or_eq_false_iff]
  refine⟨?_,beq_eq_false_iff_ne.2 hne⟩
  simp only[qh,qu3,hlen,bne_self_eq_false]
 have hg:=fun x=>qtE x
 have key:∀b:Bool,b=false∨b=true:=by decide
 unfold qdE
 dsimp only
 refine(qv c1).trans ((qdl h1).trans ?_)
 rcases key (qes op w l) with hb |hb
 ·rw[hb]
  refine(qe (rfl:way 0=true)).trans ?_
  have hi:qF op w l=qxn op w (qxM (qb (op,w)) l):=rfl
  rw[hi]
  generalize qxM (qb (op,w)) l=s at himm
  have s24:=qRf s himm
  have s11:qb3 (((qbU s.imm:Nat):Int),11)=true:=qGK (n:=11) (by omega) (by omega) (by omega)
  have s20:qb3 (((qbU s.imm:Nat):Int),20)=true:=qGK (n:=20) (by omega) (by omega) (by omega)
  have s8:qb3 (((qbU s.imm:Nat):Int),8)=true:=qGK (n:=8) (by omega) (by omega) (by omega)
  rcases key (op==18) with h18 |h18
  ·refine(qv h18).trans ?_
   rcases key ((op==24&&w)) with h24w |h24w
   ·refine(qv h24w).trans ?_
    rcases key (op==24) with h24 |h24
    ·refine(qv h24).trans ?_
     rcases key ((op==25&&w)) with h25w |h25w
     ·refine(qv h25w).trans ?_
      rcases key (op==25) with h25 |h25
      ·refine(qv h25).trans ((qe (hg _)).trans ?_)
       unfold qxn
       rw[h18,h24w,h24,h25w,h25]
       rfl
      ·refine(qe h25).trans ((qe s8).trans ((qe (hg _)).trans ?_))
       unfold qxn
       rw[h18,h24w,h24,h25w,h25]
       rfl
     ·refine(qe h25w).trans ((qe s20).trans ((qe (hg _)).trans ?_))
      unfold qxn
      rw[h18,h24w,h24,h25w]
      rfl
    ·refine(qe h24).trans ((qe s11).trans ((qe (hg _)).trans ?_))
     unfold qxn
     rw[h18,h24w,h24]
     rfl
   ·refine(qe h24w).trans ((qe (rfl:qck 23=true)).trans ((qe (rfl:qck 22=true)).trans ((qe s24).trans ((qe (hg _)).trans ?_))))
    unfold qxn
    rw[h18,h24w]
    rfl
  ·refine(qe h18).trans ((qe (hg _)).trans ?_)
   unfold qxn
   rw[h18]
   rfl
 ·rw[hb]
  refine(qv (rfl:way 1=false)).trans ?_
  show some (st.2.2.2.2.2.1,st.1,())=_
  rw[h2,h3]
  rfl
theorem qxe (op:Int) (w:Bool) (l:List Bool) (h:(qb (op,w)).length≠l.length∨qb (op,w)=[]):(qdE (op,w,tx l)).val=some (zI,false,()):=by
 have c1:(qh (qb (op,w)) != qh (tx l)||qb (op,w)==[])=true:=by
  rw[Bool.or_eq_true]
  rcases h with h |h
  ·left
   rw[bne_iff_ne]
   simp only[qh,qu3]
   omega
  ·right
   rw[h]
   rfl
 unfold qdE PO.val
 dsimp only
 rw[c1]
 rfl
theorem qu {x:Bool} (h:fx 48 x=false):x=false:=h
theorem qz {x:Bool} (h:fx 49 x=false):x=true:=by
 cases x
 ·cases h
 ·rfl
theorem qAh {g:UInt8→Nat→Bool} (h0:∀f,g 48 f=false) (h1:∀f,g 49 f=true):∀p:List UInt8,(p.zip (hl g p)).any (fun q=>fx q.1 q.2)=false
 |[]=>rfl
 |c::p=>by
  show(fx c (g c (fol c p))||(p.zip (hl g p)).any (fun q=>fx q.1 q.2))=false
  rw[qAh h0 h1 p,Bool.or_false]
  unfold fx
  cases hc:c==48
  ·cases hc1:c==49
   ·rfl
   ·have:c=49:=by simpa using hc1
    rw[this,h1]
    rfl
  ·have:c=48:=by simpa using hc
   rw[this,h0]
   rfl
end Go.Av
namespace Go.Av
open Go
theorem qca {op rd rn rm ra imm cond:Int} {w:Bool} (h:qo (op,rd,rn,rm,ra,imm,cond,w,())=0) :
  qT rd=true∧qT rn=true∧qT rm=true∧(op=17→qT ra=true∧rd≠ra)∧(op=18→ra≥1)∧(6≤op→op≤8→imm > 0)∧(op=25→cond≤13):=by
 rw[←qoK] at h
 obtain⟨_,⟨_,h1⟩,⟨_,h2⟩,⟨_,h3⟩,h4,_,_,h5,h6⟩:=qjM h
 refine⟨qK h1,qK h2,qK h3,fun e=>⟨qK (h4 e).2.1,fun e2=>(h4 e).2.2 e2.symm⟩,fun e=>(h5 e).1,fun a b=>by have:=h6 a b;omega,fun e=>?_⟩
 subst e
 have hk:=(qxi 25 rd rn rm ra imm cond w).1 h
 have hk:(rd==0&&(rn==0&&(rm==0&&(ra==0&&(bw cond 0 13&&(imm % 2==0&&bif w then bw imm (-1048576) 1048574 else bw imm (-256) 254))))))=true:=hk
 simp only[Bool.and_eq_true,decide_eq_true_eq] at hk
 exact hk.2.2.2.2.1.2
theorem qTq (x0 x1 x2 x3 x4 x5 x6 x7 x8 x9 x10 x11 x12 x13 x14 x15:Bool) (hb:qes 1 false [x0,x1,x2,x3,x4,x5,x6,x7,x8,x9,x10,x11,x12,x13,x14,x15]=false) (hc:qo (qF 1 false [x0,x1,x2,x3,x4,x5,x6,x7,x8,x9,x10,x11,x12,x13,x14,x15])=0):qrz (qF 1 false [x0,x1,x2,x3,x4,x5,x6,x7,x8,x9,x10,x11,x12,x13,x14,x15]) [x0,x1,x2,x3,x4,x5,x6,x7,x8,x9,x10,x11,x12,x13,x14,x15]∧(qF 1 false [x0,x1,x2,x3,x4,x5,x6,x7,x8,x9,x10,x11,x12,x13,x14,x15]).1=1∧(qF 1 false [x0,x1,x2,x3,x4,x5,x6,x7,x8,x9,x10,x11,x12,x13,x14,x15]).2.2.2.2.2.2.2.1=false:=by
 have hb:(fx 49 x0||(fx 48 x1||(fx 49 x2||(fx 49 x3||(fx 49 x4||(fx 49 x5||(fx 49 x6||(fx 49 x7||(fx 48 x8||(fx 48 x9||(fx 48 x10||(fx 48 x11||(fx 48 x12||(fx 48 x13||(fx 48 x14||(fx 48 x15||false))))))))))))))))=false:=hb
 simp only[Bool.or_eq_false_iff] at hb
 obtain⟨h0,h1,h2,h3,h4,h5,h6,h7,h8,h9,h10,h11,h12,h13,h14,h15,_⟩:=hb
 obtain rfl:=qz h0
 obtain rfl:=qu h1
 obtain rfl:=qz h2
 obtain rfl:=qz h3
 obtain rfl:=qz h4
 obtain rfl:=qz h5
 obtain rfl:=qz h6
 obtain rfl:=qz h7
 obtain rfl:=qu h8
 obtain rfl:=qu h9
 obtain rfl:=qu h10
 obtain rfl:=qu h11
 obtain rfl:=qu h12
 obtain rfl:=qu h13
 obtain rfl:=qu h14
 obtain rfl:=qu h15
 have q:=qRl
 rw[q] at hc
 have f:=qca hc
 rw[q]
 exact⟨⟨1,_,_,_,_,_,_,false,rfl,q,qRs⟩,rfl,rfl⟩
theorem qTF (x0 x1 x2 x3 x4 x5 x6 x7 x8 x9 x10 x11 x12 x13 x14 x15:Bool) (hb:qes 2 false [x0,x1,x2,x3,x4,x5,x6,x7,x8,x9,x10,x11,x12,x13,x14,x15]=false) (hc:qo (qF 2 false [x0,x1,x2,x3,x4,x5,x6,x7,x8,x9,x10,x11,x12,x13,x14,x15])=0):qrz (qF 2 false [x0,x1,x2,x3,x4,x5,x6,x7,x8,x9,x10,x11,x12,x13,x14,x15]) [x0,x1,x2,x3,x4,x5,x6,x7,x8,x9,x10,x11,x12,x13,x14,x15]∧(qF 2 false [x0,x1,x2,x3,x4,x5,x6,x7,x8,x9,x10,x11,x12,x13,x14,x15]).1=2∧(qF 2 false [x0,x1,x2,x3,x4,x5,x6,x7,x8,x9,x10,x11,x12,x13,x14,x15]).2.2.2.2.2.2.2.1=false:=by
 have hb:(fx 49 x0||(fx 48 x1||(fx 49 x2||(fx 49 x3||(fx 49 x4||(fx 49 x5||(fx 49 x6||(fx 48 x7||(fx 72 x8||(fx 71 x9||(fx 70 x10||(fx 69 x11||(fx 68 x12||(fx 67 x13||(fx 66 x14||(fx 65 x15||false))))))))))))))))=false:=hb
 simp only[Bool.or_eq_false_iff] at hb
 obtain⟨h0,h1,h2,h3,h4,h5,h6,h7,_,_,_,_,_,_,_,_,_⟩:=hb
 obtain rfl:=qz h0
 obtain rfl:=qu h1
 obtain rfl:=qz h2
 obtain rfl:=qz h3
 obtain rfl:=qz h4
 obtain rfl:=qz h5
 obtain rfl:=qz h6
 obtain rfl:=qu h7
 have q:=qSs x8 x9 x10 x11 x12 x13 x14 x15
 rw[q] at hc
 have f:=qca hc
 rw[q]
 exact⟨⟨2,_,_,_,_,_,_,false,rfl,q,qQ1 x8 x9 x10 x11 x12 x13 x14 x15⟩,rfl,rfl⟩
theorem qTz (x0 x1 x2 x3 x4 x5 x6 x7 x8 x9 x10 x11 x12 x13 x14 x15 y0 y1 y2 y3 y4 y5 y6 y7 y8 y9 y10 y11 y12 y13 y14 y15:Bool) (hb:qes 3 false [x0,x1,x2,x3,x4,x5,x6,x7,x8,x9,x10,x11,x12,x13,x14,x15,y0,y1,y2,y3,y4,y5,y6,y7,y8,y9,y10,y11,y12,y13,y14,y15]=false) (hc:qo (qF 3 false [x0,x1,x2,x3,x4,x5,x6,x7,x8,x9,x10,x11,x12,x13,x14,x15,y0,y1,y2,y3,y4,y5,y6,y7,y8,y9,y10,y11,y12,y13,y14,y15])=0):qi1 (qF 3 false [x0,x1,x2,x3,x4,x5,x6,x7,x8,x9,x10,x11,x12,x13,x14,x15,y0,y1,y2,y3,y4,y5,y6,y7,y8,y9,y10,y11,y12,y13,y14,y15]) [x0,x1,x2,x3,x4,x5,x6,x7,x8,x9,x10,x11,x12,x13,x14,x15] [y0,y1,y2,y3,y4,y5,y6,y7,y8,y9,y10,y11,y12,y13,y14,y15]∧(qF 3 false [x0,x1,x2,x3,x4,x5,x6,x7,x8,x9,x10,x11,x12,x13,x14,x15,y0,y1,y2,y3,y4,y5,y6,y7,y8,y9,y10,y11,y12,y13,y14,y15]).1=3∧(qF 3 false [x0,x1,x2,x3,x4,x5,x6,x7,x8,x9,x10,x11,x12,x13,x14,x15,y0,y1,y2,y3,y4,y5,y6,y7,y8,y9,y10,y11,y12,y13,y14,y15]).2.2.2.2.2.2.2.1=false:=by
 have hb:(fx 49 x0||(fx 49 x1||(fx 49 x2||(fx 49 x3||(fx 48 x4||(fx 76 x5||(fx 49 x6||(fx 48 x7||(fx 48 x8||(fx 49 x9||(fx 48 x10||(fx 48 x11||(fx 80 x12||(fx 79 x13||(fx 78 x14||(fx 77 x15||(fx 48 y0||(fx 75 y1||(fx 74 y2||(fx 73 y3||(fx 100 y4||(fx 100 y5||(fx 100 y6||(fx 100 y7||(fx 72 y8||(fx 71 y9||(fx 70 y10||(fx 69 y11||(fx 68 y12||(fx 67 y13||(fx 66 y14||(fx 65 y15||false))))))))))))))))))))))))))))))))=false:=hb
 simp only[Bool.or_eq_false_iff] at hb
 obtain⟨h0,h1,h2,h3,h4,_,h6,h7,h8,h9,h10,h11,_,_,_,_,h16,_,_,_,_,_,_,_,_,_,_,_,_,_,_,_,_⟩:=hb
 obtain rfl:=qz h0
 obtain rfl:=qz h1
 obtain rfl:=qz h2
 obtain rfl:=qz h3
 obtain rfl:=qu h4
 obtain rfl:=qz h6
 obtain rfl:=qu h7
 obtain rfl:=qu h8
 obtain rfl:=qz h9
 obtain rfl:=qu h10
 obtain rfl:=qu h11
 obtain rfl:=qu h16
 have q:=qSc x5 x12 x13 x14 x15 y1 y2 y3 y4 y5 y6 y7 y8 y9 y10 y11 y12 y13 y14 y15
 rw[q] at hc
 have f:=qca hc
 rw[q]
 exact⟨⟨3,_,_,_,_,_,_,false,rfl,q,qRB x5 x12 x13 x14 x15 y1 y2 y3 y4 y5 y6 y7 y8 y9 y10 y11 y12 y13 y14 y15 f.1⟩,rfl,rfl⟩
theorem qTt (x0 x1 x2 x3 x4 x5 x6 x7 x8 x9 x10 x11 x12 x13 x14 x15 y0 y1 y2 y3 y4 y5 y6 y7 y8 y9 y10 y11 y12 y13 y14 y15:Bool) (hb:qes 4 false [x0,x1,x2,x3,x4,x5,x6,x7,x8,x9,x10,x11,x12,x13,x14,x15,y0,y1,y2,y3,y4,y5,y6,y7,y8,y9,y10,y11,y12,y13,y14,y15]=false) (hc:qo (qF 4 false [x0,x1,x2,x3,x4,x5,x6,x7,x8,x9,x10,x11,x12,x13,x14,x15,y0,y1,y2,y3,y4,y5,y6,y7,y8,y9,y10,y11,y12,y13,y14,y15])=0):qi1 (qF 4 false [x0,x1,x2,x3,x4,x5,x6,x7,x8,x9,x10,x11,x12,x13,x14,x15,y0,y1,y2,y3,y4,y5,y6,y7,y8,y9,y10,y11,y12,y13,y14,y15]) [x0,x1,x2,x3,x4,x5,x6,x7,x8,x9,x10,x11,x12,x13,x14,x15] [y0,y1,y2,y3,y4,y5,y6,y7,y8,y9,y10,y11,y12,y13,y14,y15]∧(qF 4 false [x0,x1,x2,x3,x4,x5,x6,x7,x8,x9,x10,x11,x12,x13,x14,x15,y0,y1,y2,y3,y4,y5,y6,y7,y8,y9,y10,y11,y12,y13,y14,y15]).1=4∧(qF 4 false [x0,x1,x2,x3,x4,x5,x6,x7,x8,x9,x10,x11,x12,x13,x14,x15,y0,y1,y2,y3,y4,y5,y6,y7,y8,y9,y10,y11,y12,y13,y14,y15]).2.2.2.2.2.2.2.1=false:=by
 have hb:(fx 49 x0||(fx 49 x1||(fx 49 x2||(fx 49 x3||(fx 48 x4||(fx 76 x5||(fx 49 x6||(fx 48 x7||(fx 49 x8||(fx 49 x9||(fx 48 x10||(fx 48 x11||(fx 80 x12||(fx 79 x13||(fx 78 x14||(fx 77 x15||(fx 48 y0||(fx 75 y1||(fx 74 y2||(fx 73 y3||(fx 100 y4||(fx 100 y5||(fx 100 y6||(fx 100 y7||(fx 72 y8||(fx 71 y9||(fx 70 y10||(fx 69 y11||(fx 68 y12||(fx 67 y13||(fx 66 y14||(fx 65 y15||false))))))))))))))))))))))))))))))))=false:=hb
 simp only[Bool.or_eq_false_iff] at hb
 obtain⟨h0,h1,h2,h3,h4,_,h6,h7,h8,h9,h10,h11,_,_,_,_,h16,_,_,_,_,_,_,_,_,_,_,_,_,_,_,_,_⟩:=hb
 obtain rfl:=qz h0
 obtain rfl:=qz h1
 obtain rfl:=qz h2
 obtain rfl:=qz h3
 obtain rfl:=qu h4
 obtain rfl:=qz h6
 obtain rfl:=qu h7
 obtain rfl:=qz h8
 obtain rfl:=qz h9
 obtain rfl:=qu h10
 obtain rfl:=qu h11
 obtain rfl:=qu h16
 have q:=qQ5 x5 x12 x13 x14 x15 y1 y2 y3 y4 y5 y6 y7 y8 y9 y10 y11 y12 y13 y14 y15
 rw[q] at hc
 have f:=qca hc
 rw[q]
 exact⟨⟨4,_,_,_,_,_,_,false,rfl,q,qSe x5 x12 x13 x14 x15 y1 y2 y3 y4 y5 y6 y7 y8 y9 y10 y11 y12 y13 y14 y15 f.1⟩,rfl,rfl⟩
theorem qTo (x0 x1 x2 x3 x4 x5 x6 x7 x8 x9 x10 x11 x12 x13 x14 x15 y0 y1 y2 y3 y4 y5 y6 y7 y8 y9 y10 y11 y12 y13 y14 y15:Bool) (hb:qes 5 false [x0,x1,x2,x3,x4,x5,x6,x7,x8,x9,x10,x11,x12,x13,x14,x15,y0,y1,y2,y3,y4,y5,y6,y7,y8,y9,y10,y11,y12,y13,y14,y15]=false) (hc:qo (qF 5 false [x0,x1,x2,x3,x4,x5,x6,x7,x8,x9,x10,x11,x12,x13,x14,x15,y0,y1,y2,y3,y4,y5,y6,y7,y8,y9,y10,y11,y12,y13,y14,y15])=0):qi1 (qF 5 false [x0,x1,x2,x3,x4,x5,x6,x7,x8,x9,x10,x11,x12,x13,x14,x15,y0,y1,y2,y3,y4,y5,y6,y7,y8,y9,y10,y11,y12,y13,y14,y15]) [x0,x1,x2,x3,x4,x5,x6,x7,x8,x9,x10,x11,x12,x13,x14,x15] [y0,y1,y2,y3,y4,y5,y6,y7,y8,y9,y10,y11,y12,y13,y14,y15]∧(qF 5 false [x0,x1,x2,x3,x4,x5,x6,x7,x8,x9,x10,x11,x12,x13,x14,x15,y0,y1,y2,y3,y4,y5,y6,y7,y8,y9,y10,y11,y12,y13,y14,y15]).1=5∧(qF 5 false [x0,x1,x2,x3,x4,x5,x6,x7,x8,x9,x10,x11,x12,x13,x14,x15,y0,y1,y2,y3,y4,y5,y6,y7,y8,y9,y10,y11,y12,y13,y14,y15]).2.2.2.2.2.2.2.1=false:=by
 have hb:(fx 49 x0||(fx 49 x1||(fx 49 x2||(fx 48 x3||(fx 49 x4||(fx 48 x5||(fx 49 x6||(fx 48 x7||(fx 48 x8||(fx 49 x9||(fx 48 x10||(fx 48 x11||(fx 49 x12||(fx 49 x13||(fx 49 x14||(fx 49 x15||(fx 48 y0||(fx 69 y1||(fx 68 y2||(fx 67 y3||(fx 100 y4||(fx 100 y5||(fx 100 y6||(fx 100 y7||(fx 66 y8||(fx 65 y9||(fx 48 y10||(fx 48 y11||(fx 109 y12||(fx 109 y13||(fx 109 y14||(fx 109 y15||false))))))))))))))))))))))))))))))))=false:=hb
 simp only[Bool.or_eq_false_iff] at hb
 obtain⟨h0,h1,h2,h3,h4,h5,h6,h7,h8,h9,h10,h11,h12,h13,h14,h15,h16,_,_,_,_,_,_,_,_,_,h26,h27,_,_,_,_,_⟩:=hb
 obtain rfl:=qz h0
 obtain rfl:=qz h1
 obtain rfl:=qz h2
 obtain rfl:=qu h3
 obtain rfl:=qz h4
 obtain rfl:=qu h5
 obtain rfl:=qz h6
 obtain rfl:=qu h7
 obtain rfl:=qu h8
 obtain rfl:=qz h9
 obtain rfl:=qu h10
 obtain rfl:=qu h11
 obtain rfl:=qz h12
 obtain rfl:=qz h13
 obtain rfl:=qz h14
 obtain rfl:=qz h15
 obtain rfl:=qu h16
 obtain rfl:=qu h26
 obtain rfl:=qu h27
 have q:=qR9 y1 y2 y3 y4 y5 y6 y7 y8 y9 y12 y13 y14 y15
 rw[q] at hc
 have f:=qca hc
 rw[q]
 exact⟨⟨5,_,_,_,_,_,_,false,rfl,q,qRr y1 y2 y3 y4 y5 y6 y7 y8 y9 y12 y13 y14 y15 f.1 f.2.2.1⟩,rfl,rfl⟩
theorem qTp (x0 x1 x2 x3 x4 x5 x6 x7 x8 x9 x10 x11 x12 x13 x14 x15 y0 y1 y2 y3 y4 y5 y6 y7 y8 y9 y10 y11 y12 y13 y14 y15:Bool) (hb:qes 6 false [x0,x1,x2,x3,x4,x5,x6,x7,x8,x9,x10,x11,x12,x13,x14,x15,y0,y1,y2,y3,y4,y5,y6,y7,y8,y9,y10,y11,y12,y13,y14,y15]=false) (hc:qo (qF 6 false [x0,x1,x2,x3,x4,x5,x6,x7,x8,x9,x10,x11,x12,x13,x14,x15,y0,y1,y2,y3,y4,y5,y6,y7,y8,y9,y10,y11,y12,y13,y14,y15])=0):qi1 (qF 6 false [x0,x1,x2,x3,x4,x5,x6,x7,x8,x9,x10,x11,x12,x13,x14,x15,y0,y1,y2,y3,y4,y5,y6,y7,y8,y9,y10,y11,y12,y13,y14,y15]) [x0,x1,x2,x3,x4,x5,x6,x7,x8,x9,x10,x11,x12,x13,x14,x15] [y0,y1,y2,y3,y4,y5,y6,y7,y8,y9,y10,y11,y12,y13,y14,y15]∧(qF 6 false [x0,x1,x2,x3,x4,x5,x6,x7,x8,x9,x10,x11,x12,x13,x14,x15,y0,y1,y2,y3,y4,y5,y6,y7,y8,y9,y10,y11,y12,y13,y14,y15]).1=6∧(qF 6 false [x0,x1,x2,x3,x4,x5,x6,x7,x8,x9,x10,x11,x12,x13,x14,x15,y0,y1,y2,y3,y4,y5,y6,y7,y8,y9,y10,y11,y12,y13,y14,y15]).2.2.2.2.2.2.2.1=false:=by
 have hb:(fx 49 x0||(fx 49 x1||(fx 49 x2||(fx 48 x3||(fx 49 x4||(fx 48 x5||(fx 49 x6||(fx 48 x7||(fx 48 x8||(fx 49 x9||(fx 48 x10||(fx 48 x11||(fx 49 x12||(fx 49 x13||(fx 49 x14||(fx 49 x15||(fx 48 y0||(fx 69 y1||(fx 68 y2||(fx 67 y3||(fx 100 y4||(fx 100 y5||(fx 100 y6||(fx 100 y7||(fx 66 y8||(fx 65 y9||(fx 48 y10||(fx 49 y11||(fx 109 y12||(fx 109 y13||(fx 109 y14||(fx 109 y15||false))))))))))))))))))))))))))))))))=false:=hb
 simp only[Bool.or_eq_false_iff] at hb
 obtain⟨h0,h1,h2,h3,h4,h5,h6,h7,h8,h9,h10,h11,h12,h13,h14,h15,h16,_,_,_,_,_,_,_,_,_,h26,h27,_,_,_,_,_⟩:=hb
 obtain rfl:=qz h0
 obtain rfl:=qz h1
 obtain rfl:=qz h2
 obtain rfl:=qu h3
 obtain rfl:=qz h4
 obtain rfl:=qu h5
 obtain rfl:=qz h6
 obtain rfl:=qu h7
 obtain rfl:=qu h8
 obtain rfl:=qz h9
 obtain rfl:=qu h10
 obtain rfl:=qu h11
 obtain rfl:=qz h12
 obtain rfl:=qz h13
 obtain rfl:=qz h14
 obtain rfl:=qz h15
 obtain rfl:=qu h16
 obtain rfl:=qu h26
 obtain rfl:=qz h27
 have q:=qRT y1 y2 y3 y4 y5 y6 y7 y8 y9 y12 y13 y14 y15
 rw[q] at hc
 have f:=qca hc
 rw[q]
 exact⟨⟨6,_,_,_,_,_,_,false,rfl,q,qRM y1 y2 y3 y4 y5 y6 y7 y8 y9 y12 y13 y14 y15 f.1 f.2.2.1 (f.2.2.2.2.2.1 (by omega) (by omega))⟩,rfl,rfl⟩
theorem qTE (x0 x1 x2 x3 x4 x5 x6 x7 x8 x9 x10 x11 x12 x13 x14 x15 y0 y1 y2 y3 y4 y5 y6 y7 y8 y9 y10 y11 y12 y13 y14 y15:Bool) (hb:qes 7 false [x0,x1,x2,x3,x4,x5,x6,x7,x8,x9,x10,x11,x12,x13,x14,x15,y0,y1,y2,y3,y4,y5,y6,y7,y8,y9,y10,y11,y12,y13,y14,y15]=false) (hc:qo (qF 7 false [x0,x1,x2,x3,x4,x5,x6,x7,x8,x9,x10,x11,x12,x13,x14,x15,y0,y1,y2,y3,y4,y5,y6,y7,y8,y9,y10,y11,y12,y13,y14,y15])=0):qi1 (qF 7 false [x0,x1,x2,x3,x4,x5,x6,x7,x8,x9,x10,x11,x12,x13,x14,x15,y0,y1,y2,y3,y4,y5,y6,y7,y8,y9,y10,y11,y12,y13,y14,y15]) [x0,x1,x2,x3,x4,x5,x6,x7,x8,x9,x10,x11,x12,x13,x14,x15] [y0,y1,y2,y3,y4,y5,y6,y7,y8,y9,y10,y11,y12,y13,y14,y15]∧(qF 7 false [x0,x1,x2,x3,x4,x5,x6,x7,x8,x9,x10,x11,x12,x13,x14,x15,y0,y1,y2,y3,y4,y5,y6,y7,y8,y9,y10,y11,y12,y13,y14,y15]).1=7∧(qF 7 false [x0,x1,x2,x3,x4,x5,x6,x7,x8,x9,x10,x11,x12,x13,x14,x15,y0,y1,y2,y3,y4,y5,y6,y7,y8,y9,y10,y11,y12,y13,y14,y15]).2.2.2.2.2.2.2.1=false:=by
 have hb:(fx 49 x0||(fx 49 x1||(fx 49 x2||(fx 48 x3||(fx 49 x4||(fx 48 x5||(fx 49 x6||(fx 48 x7||(fx 48 x8||(fx 49 x9||(fx 48 x10||(fx 48 x11||(fx 49 x12||(fx 49 x13||(fx 49 x14||(fx 49 x15||(fx 48 y0||(fx 69 y1||(fx 68 y2||(fx 67 y3||(fx 100 y4||(fx 100 y5||(fx 100 y6||(fx 100 y7||(fx 66 y8||(fx 65 y9||(fx 49 y10||(fx 48 y11||(fx 109 y12||(fx 109 y13||(fx 109 y14||(fx 109 y15||false))))))))))))))))))))))))))))))))=false:=hb
 simp only[Bool.or_eq_false_iff] at hb
 obtain⟨h0,h1,h2,h3,h4,h5,h6,h7,h8,h9,h10,h11,h12,h13,h14,h15,h16,_,_,_,_,_,_,_,_,_,h26,h27,_,_,_,_,_⟩:=hb
 obtain rfl:=qz h0
 obtain rfl:=qz h1
 obtain rfl:=qz h2
 obtain rfl:=qu h3
 obtain rfl:=qz h4
 obtain rfl:=qu h5
 obtain rfl:=qz h6
 obtain rfl:=qu h7
 obtain rfl:=qu h8
 obtain rfl:=qz h9
 obtain rfl:=qu h10
 obtain rfl:=qu h11
 obtain rfl:=qz h12
 obtain rfl:=qz h13
 obtain rfl:=qz h14
 obtain rfl:=qz h15
 obtain rfl:=qu h16
 obtain rfl:=qz h26
 obtain rfl:=qu h27
 have q:=qQ8 y1 y2 y3 y4 y5 y6 y7 y8 y9 y12 y13 y14 y15
 rw[q] at hc
 have f:=qca hc
 rw[q]
 exact⟨⟨7,_,_,_,_,_,_,false,rfl,q,qRz y1 y2 y3 y4 y5 y6 y7 y8 y9 y12 y13 y14 y15 f.1 f.2.2.1 (f.2.2.2.2.2.1 (by omega) (by omega))⟩,rfl,rfl⟩
theorem qTI (x0 x1 x2 x3 x4 x5 x6 x7 x8 x9 x10 x11 x12 x13 x14 x15 y0 y1 y2 y3 y4 y5 y6 y7 y8 y9 y10 y11 y12 y13 y14 y15:Bool) (hb:qes 8 false [x0,x1,x2,x3,x4,x5,x6,x7,x8,x9,x10,x11,x12,x13,x14,x15,y0,y1,y2,y3,y4,y5,y6,y7,y8,y9,y10,y11,y12,y13,y14,y15]=false) (hc:qo (qF 8 false [x0,x1,x2,x3,x4,x5,x6,x7,x8,x9,x10,x11,x12,x13,x14,x15,y0,y1,y2,y3,y4,y5,y6,y7,y8,y9,y10,y11,y12,y13,y14,y15])=0):qi1 (qF 8 false [x0,x1,x2,x3,x4,x5,x6,x7,x8,x9,x10,x11,x12,x13,x14,x15,y0,y1,y2,y3,y4,y5,y6,y7,y8,y9,y10,y11,y12,y13,y14,y15]) [x0,x1,x2,x3,x4,x5,x6,x7,x8,x9,x10,x11,x12,x13,x14,x15] [y0,y1,y2,y3,y4,y5,y6,y7,y8,y9,y10,y11,y12,y13,y14,y15]∧(qF 8 false [x0,x1,x2,x3,x4,x5,x6,x7,x8,x9,x10,x11,x12,x13,x14,x15,y0,y1,y2,y3,y4,y5,y6,y7,y8,y9,y10,y11,y12,y13,y14,y15]).1=8∧(qF 8 false [x0,x1,x2,x3,x4,x5,x6,x7,x8,x9,x10,x11,x12,x13,x14,x15,y0,y1,y2,y3,y4,y5,y6,y7,y8,y9,y10,y11,y12,y13,y14,y15]).2.2.2.2.2.2.2.1=false:=by
 have hb:(fx 49 x0||(fx 49 x1||(fx 49 x2||(fx 48 x3||(fx 49 x4||(fx 48 x5||(fx 49 x6||(fx 48 x7||(fx 48 x8||(fx 49 x9||(fx 48 x10||(fx 48 x11||(fx 49 x12||(fx 49 x13||(fx 49 x14||(fx 49 x15||(fx 48 y0||(fx 69 y1||(fx 68 y2||(fx 67 y3||(fx 100 y4||(fx 100 y5||(fx 100 y6||(fx 100 y7||(fx 66 y8||(fx 65 y9||(fx 49 y10||(fx 49 y11||(fx 109 y12||(fx 109 y13||(fx 109 y14||(fx 109 y15||false))))))))))))))))))))))))))))))))=false:=hb
 simp only[Bool.or_eq_false_iff] at hb
 obtain⟨h0,h1,h2,h3,h4,h5,h6,h7,h8,h9,h10,h11,h12,h13,h14,h15,h16,_,_,_,_,_,_,_,_,_,h26,h27,_,_,_,_,_⟩:=hb
 obtain rfl:=qz h0
 obtain rfl:=qz h1
 obtain rfl:=qz h2
 obtain rfl:=qu h3
 obtain rfl:=qz h4
 obtain rfl:=qu h5
 obtain rfl:=qz h6
 obtain rfl:=qu h7
 obtain rfl:=qu h8
 obtain rfl:=qz h9
 obtain rfl:=qu h10
 obtain rfl:=qu h11
 obtain rfl:=qz h12
 obtain rfl:=qz h13
 obtain rfl:=qz h14
 obtain rfl:=qz h15
 obtain rfl:=qu h16
 obtain rfl:=qz h26
 obtain rfl:=qz h27
 have q:=qRq y1 y2 y3 y4 y5 y6 y7 y8 y9 y12 y13 y14 y15
 rw[q] at hc
 have f:=qca hc
 rw[q]
 exact⟨⟨8,_,_,_,_,_,_,false,rfl,q,qSn y1 y2 y3 y4 y5 y6 y7 y8 y9 y12 y13 y14 y15 f.1 f.2.2.1 (f.2.2.2.2.2.1 (by omega) (by omega))⟩,rfl,rfl⟩
theorem qTH (x0 x1 x2 x3 x4 x5 x6 x7 x8 x9 x10 x11 x12 x13 x14 x15 y0 y1 y2 y3 y4 y5 y6 y7 y8 y9 y10 y11 y12 y13 y14 y15:Bool) (hb:qes 9 false [x0,x1,x2,x3,x4,x5,x6,x7,x8,x9,x10,x11,x12,x13,x14,x15,y0,y1,y2,y3,y4,y5,y6,y7,y8,y9,y10,y11,y12,y13,y14,y15]=false) (hc:qo (qF 9 false [x0,x1,x2,x3,x4,x5,x6,x7,x8,x9,x10,x11,x12,x13,x14,x15,y0,y1,y2,y3,y4,y5,y6,y7,y8,y9,y10,y11,y12,y13,y14,y15])=0):qi1 (qF 9 false [x0,x1,x2,x3,x4,x5,x6,x7,x8,x9,x10,x11,x12,x13,x14,x15,y0,y1,y2,y3,y4,y5,y6,y7,y8,y9,y10,y11,y12,y13,y14,y15]) [x0,x1,x2,x3,x4,x5,x6,x7,x8,x9,x10,x11,x12,x13,x14,x15] [y0,y1,y2,y3,y4,y5,y6,y7,y8,y9,y10,y11,y12,y13,y14,y15]∧(qF 9 false [x0,x1,x2,x3,x4,x5,x6,x7,x8,x9,x10,x11,x12,x13,x14,x15,y0,y1,y2,y3,y4,y5,y6,y7,y8,y9,y10,y11,y12,y13,y14,y15]).1=9∧(qF 9 false [x0,x1,x2,x3,x4,x5,x6,x7,x8,x9,x10,x11,x12,x13,x14,x15,y0,y1,y2,y3,y4,y5,y6,y7,y8,y9,y10,y11,y12,y13,y14,y15]).2.2.2.2.2.2.2.1=false:=by
 have hb:(fx 49 x0||(fx 49 x1||(fx 49 x2||(fx 48 x3||(fx 49 x4||(fx 48 x5||(fx 49 x6||(fx 48 x7||(fx 48 x8||(fx 49 x9||(fx 49 x10||(fx 48 x11||(fx 49 x12||(fx 49 x13||(fx 49 x14||(fx 49 x15||(fx 48 y0||(fx 48 y1||(fx 48 y2||(fx 48 y3||(fx 100 y4||(fx 100 y5||(fx 100 y6||(fx 100 y7||(fx 48 y8||(fx 48 y9||(fx 48 y10||(fx 48 y11||(fx 109 y12||(fx 109 y13||(fx 109 y14||(fx 109 y15||false))))))))))))))))))))))))))))))))=false:=hb
 simp only[Bool.or_eq_false_iff] at hb
 obtain⟨h0,h1,h2,h3,h4,h5,h6,h7,h8,h9,h10,h11,h12,h13,h14,h15,h16,h17,h18,h19,_,_,_,_,h24,h25,h26,h27,_,_,_,_,_⟩:=hb
 obtain rfl:=qz h0
 obtain rfl:=qz h1
 obtain rfl:=qz h2
 obtain rfl:=qu h3
 obtain rfl:=qz h4
 obtain rfl:=qu h5
 obtain rfl:=qz h6
 obtain rfl:=qu h7
 obtain rfl:=qu h8
 obtain rfl:=qz h9
 obtain rfl:=qz h10
 obtain rfl:=qu h11
 obtain rfl:=qz h12
 obtain rfl:=qz h13
 obtain rfl:=qz h14
 obtain rfl:=qz h15
 obtain rfl:=qu h16
 obtain rfl:=qu h17
 obtain rfl:=qu h18
 obtain rfl:=qu h19
 obtain rfl:=qu h24
 obtain rfl:=qu h25
 obtain rfl:=qu h26
 obtain rfl:=qu h27
 have q:=qR2 y4 y5 y6 y7 y12 y13 y14 y15
 rw[q] at hc
 have f:=qca hc
 rw[q]
 exact⟨⟨9,_,_,_,_,_,_,false,rfl,q,qSp y4 y5 y6 y7 y12 y13 y14 y15 f.1 f.2.2.1⟩,rfl,rfl⟩
theorem qSB (x0 x1 x2 x3 x4 x5 x6 x7 x8 x9 x10 x11 x12 x13 x14 x15 y0 y1 y2 y3 y4 y5 y6 y7 y8 y9 y10 y11 y12 y13 y14 y15:Bool) (hb:qes 10 false [x0,x1,x2,x3,x4,x5,x6,x7,x8,x9,x10,x11,x12,x13,x14,x15,y0,y1,y2,y3,y4,y5,y6,y7,y8,y9,y10,y11,y12,y13,y14,y15]=false) (hc:qo (qF 10 false [x0,x1,x2,x3,x4,x5,x6,x7,x8,x9,x10,x11,x12,x13,x14,x15,y0,y1,y2,y3,y4,y5,y6,y7,y8,y9,y10,y11,y12,y13,y14,y15])=0):qi1 (qF 10 false [x0,x1,x2,x3,x4,x5,x6,x7,x8,x9,x10,x11,x12,x13,x14,x15,y0,y1,y2,y3,y4,y5,y6,y7,y8,y9,y10,y11,y12,y13,y14,y15]) [x0,x1,x2,x3,x4,x5,x6,x7,x8,x9,x10,x11,x12,x13,x14,x15] [y0,y1,y2,y3,y4,y5,y6,y7,y8,y9,y10,y11,y12,y13,y14,y15]∧(qF 10 false [x0,x1,x2,x3,x4,x5,x6,x7,x8,x9,x10,x11,x12,x13,x14,x15,y0,y1,y2,y3,y4,y5,y6,y7,y8,y9,y10,y11,y12,y13,y14,y15]).1=10∧(qF 10 false [x0,x1,x2,x3,x4,x5,x6,x7,x8,x9,x10,x11,x12,x13,x14,x15,y0,y1,y2,y3,y4,y5,y6,y7,y8,y9,y10,y11,y12,y13,y14,y15]).2.2.2.2.2.2.2.1=false:=by
 have hb:(fx 49 x0||(fx 49 x1||(fx 49 x2||(fx 48 x3||(fx 49 x4||(fx 48 x5||(fx 49 x6||(fx 48 x7||(fx 48 x8||(fx 48 x9||(fx 48 x10||(fx 48 x11||(fx 110 x12||(fx 110 x13||(fx 110 x14||(fx 110 x15||(fx 48 y0||(fx 48 y1||(fx 48 y2||(fx 48 y3||(fx 100 y4||(fx 100 y5||(fx 100 y6||(fx 100 y7||(fx 48 y8||(fx 48 y9||(fx 48 y10||(fx 48 y11||(fx 109 y12||(fx 109 y13||(fx 109 y14||(fx 109 y15||false))))))))))))))))))))))))))))))))=false:=hb
 simp only[Bool.or_eq_false_iff] at hb
 obtain⟨h0,h1,h2,h3,h4,h5,h6,h7,h8,h9,h10,h11,_,_,_,_,h16,h17,h18,h19,_,_,_,_,h24,h25,h26,h27,_,_,_,_,_⟩:=hb
 obtain rfl:=qz h0
 obtain rfl:=qz h1
 obtain rfl:=qz h2
 obtain rfl:=qu h3
 obtain rfl:=qz h4
 obtain rfl:=qu h5
 obtain rfl:=qz h6
 obtain rfl:=qu h7
 obtain rfl:=qu h8
 obtain rfl:=qu h9
 obtain rfl:=qu h10
 obtain rfl:=qu h11
 obtain rfl:=qu h16
 obtain rfl:=qu h17
 obtain rfl:=qu h18
 obtain rfl:=qu h19
 obtain rfl:=qu h24
 obtain rfl:=qu h25
 obtain rfl:=qu h26
 obtain rfl:=qu h27
 have q:=qPq x12 x13 x14 x15 y4 y5 y6 y7 y12 y13 y14 y15
 rw[q] at hc
 have f:=qca hc
 rw[q]
 exact⟨⟨10,_,_,_,_,_,_,false,rfl,q,qPB x12 x13 x14 x15 y4 y5 y6 y7 y12 y13 y14 y15 f.1 f.2.1 f.2.2.1⟩,rfl,rfl⟩
theorem qSF (x0 x1 x2 x3 x4 x5 x6 x7 x8 x9 x10 x11 x12 x13 x14 x15 y0 y1 y2 y3 y4 y5 y6 y7 y8 y9 y10 y11 y12 y13 y14 y15:Bool) (hb:qes 11 false [x0,x1,x2,x3,x4,x5,x6,x7,x8,x9,x10,x11,x12,x13,x14,x15,y0,y1,y2,y3,y4,y5,y6,y7,y8,y9,y10,y11,y12,y13,y14,y15]=false) (hc:qo (qF 11 false [x0,x1,x2,x3,x4,x5,x6,x7,x8,x9,x10,x11,x12,x13,x14,x15,y0,y1,y2,y3,y4,y5,y6,y7,y8,y9,y10,y11,y12,y13,y14,y15])=0):qi1 (qF 11 false [x0,x1,x2,x3,x4,x5,x6,x7,x8,x9,x10,x11,x12,x13,x14,x15,y0,y1,y2,y3,y4,y5,y6,y7,y8,y9,y10,y11,y12,y13,y14,y15]) [x0,x1,x2,x3,x4,x5,x6,x7,x8,x9,x10,x11,x12,x13,x14,x15] [y0,y1,y2,y3,y4,y5,y6,y7,y8,y9,y10,y11,y12,y13,y14,y15]∧(qF 11 false [x0,x1,x2,x3,x4,x5,x6,x7,x8,x9,x10,x11,x12,x13,x14,x15,y0,y1,y2,y3,y4,y5,y6,y7,y8,y9,y10,y11,y12,y13,y14,y15]).1=11∧(qF 11 false [x0,x1,x2,x3,x4,x5,x6,x7,x8,x9,x10,x11,x12,x13,x14,x15,y0,y1,y2,y3,y4,y5,y6,y7,y8,y9,y10,y11,y12,y13,y14,y15]).2.2.2.2.2.2.2.1=false:=by
 have hb:(fx 49 x0||(fx 49 x1||(fx 49 x2||(fx 48 x3||(fx 49 x4||(fx 48 x5||(fx 49 x6||(fx 48 x7||(fx 48 x8||(fx 48 x9||(fx 49 x10||(fx 48 x11||(fx 110 x12||(fx 110 x13||(fx 110 x14||(fx 110 x15||(fx 48 y0||(fx 48 y1||(fx 48 y2||(fx 48 y3||(fx 100 y4||(fx 100 y5||(fx 100 y6||(fx 100 y7||(fx 48 y8||(fx 48 y9||(fx 48 y10||(fx 48 y11||(fx 109 y12||(fx 109 y13||(fx 109 y14||(fx 109 y15||false))))))))))))))))))))))))))))))))=false:=hb
 simp only[Bool.or_eq_false_iff] at hb
 obtain⟨h0,h1,h2,h3,h4,h5,h6,h7,h8,h9,h10,h11,_,_,_,_,h16,h17,h18,h19,_,_,_,_,h24,h25,h26,h27,_,_,_,_,_⟩:=hb
 obtain rfl:=qz h0
 obtain rfl:=qz h1
 obtain rfl:=qz h2
 obtain rfl:=qu h3
 obtain rfl:=qz h4
 obtain rfl:=qu h5
 obtain rfl:=qz h6
 obtain rfl:=qu h7
 obtain rfl:=qu h8
 obtain rfl:=qu h9
 obtain rfl:=qz h10
 obtain rfl:=qu h11
 obtain rfl:=qu h16
 obtain rfl:=qu h17
 obtain rfl:=qu h18
 obtain rfl:=qu h19
 obtain rfl:=qu h24
 obtain rfl:=qu h25
 obtain rfl:=qu h26
 obtain rfl:=qu h27
 have q:=qO8 x12 x13 x14 x15 y4 y5 y6 y7 y12 y13 y14 y15
 rw[q] at hc
 have f:=qca hc
 rw[q]
 exact⟨⟨11,_,_,_,_,_,_,false,rfl,q,qPu x12 x13 x14 x15 y4 y5 y6 y7 y12 y13 y14 y15 f.1 f.2.1 f.2.2.1⟩,rfl,rfl⟩
theorem qSN (x0 x1 x2 x3 x4 x5 x6 x7 x8 x9 x10 x11 x12 x13 x14 x15 y0 y1 y2 y3 y4 y5 y6 y7 y8 y9 y10 y11 y12 y13 y14 y15:Bool) (hb:qes 12 false [x0,x1,x2,x3,x4,x5,x6,x7,x8,x9,x10,x11,x12,x13,x14,x15,y0,y1,y2,y3,y4,y5,y6,y7,y8,y9,y10,y11,y12,y13,y14,y15]=false) (hc:qo (qF 12 false [x0,x1,x2,x3,x4,x5,x6,x7,x8,x9,x10,x11,x12,x13,x14,x15,y0,y1,y2,y3,y4,y5,y6,y7,y8,y9,y10,y11,y12,y13,y14,y15])=0):qi1 (qF 12 false [x0,x1,x2,x3,x4,x5,x6,x7,x8,x9,x10,x11,x12,x13,x14,x15,y0,y1,y2,y3,y4,y5,y6,y7,y8,y9,y10,y11,y12,y13,y14,y15]) [x0,x1,x2,x3,x4,x5,x6,x7,x8,x9,x10,x11,x12,x13,x14,x15] [y0,y1,y2,y3,y4,y5,y6,y7,y8,y9,y10,y11,y12,y13,y14,y15]∧(qF 12 false [x0,x1,x2,x3,x4,x5,x6,x7,x8,x9,x10,x11,x12,x13,x14,x15,y0,y1,y2,y3,y4,y5,y6,y7,y8,y9,y10,y11,y12,y13,y14,y15]).1=12∧(qF 12 false [x0,x1,x2,x3,x4,x5,x6,x7,x8,x9,x10,x11,x12,x13,x14,x15,y0,y1,y2,y3,y4,y5,y6,y7,y8,y9,y10,y11,y12,y13,y14,y15]).2.2.2.2.2.2.2.1=false:=by
 have hb:(fx 49 x0||(fx 49 x1||(fx 49 x2||(fx 48 x3||(fx 49 x4||(fx 48 x5||(fx 49 x6||(fx 48 x7||(fx 48 x8||(fx 49 x9||(fx 48 x10||(fx 48 x11||(fx 110 x12||(fx 110 x13||(fx 110 x14||(fx 110 x15||(fx 48 y0||(fx 48 y1||(fx 48 y2||(fx 48 y3||(fx 100 y4||(fx 100 y5||(fx 100 y6||(fx 100 y7||(fx 48 y8||(fx 48 y9||(fx 48 y10||(fx 48 y11||(fx 109 y12||(fx 109 y13||(fx 109 y14||(fx 109 y15||false))))))))))))))))))))))))))))))))=false:=hb
 simp only[Bool.or_eq_false_iff] at hb
 obtain⟨h0,h1,h2,h3,h4,h5,h6,h7,h8,h9,h10,h11,_,_,_,_,h16,h17,h18,h19,_,_,_,_,h24,h25,h26,h27,_,_,_,_,_⟩:=hb
 obtain rfl:=qz h0
 obtain rfl:=qz h1
 obtain rfl:=qz h2
 obtain rfl:=qu h3
 obtain rfl:=qz h4
 obtain rfl:=qu h5
 obtain rfl:=qz h6
 obtain rfl:=qu h7
 obtain rfl:=qu h8
 obtain rfl:=qz h9
 obtain rfl:=qu h10
 obtain rfl:=qu h11
 obtain rfl:=qu h16
 obtain rfl:=qu h17
 obtain rfl:=qu h18
 obtain rfl:=qu h19
 obtain rfl:=qu h24
 obtain rfl:=qu h25
 obtain rfl:=qu h26
 obtain rfl:=qu h27
 have q:=qPC x12 x13 x14 x15 y4 y5 y6 y7 y12 y13 y14 y15
 rw[q] at hc
 have f:=qca hc
 rw[q]
 exact⟨⟨12,_,_,_,_,_,_,false,rfl,q,qPw x12 x13 x14 x15 y4 y5 y6 y7 y12 y13 y14 y15 f.1 f.2.1 f.2.2.1⟩,rfl,rfl⟩
theorem qTd (x0 x1 x2 x3 x4 x5 x6 x7 x8 x9 x10 x11 x12 x13 x14 x15 y0 y1 y2 y3 y4 y5 y6 y7 y8 y9 y10 y11 y12 y13 y14 y15:Bool) (hb:qes 13 false [x0,x1,x2,x3,x4,x5,x6,x7,x8,x9,x10,x11,x12,x13,x14,x15,y0,y1,y2,y3,y4,y5,y6,y7,y8,y9,y10,y11,y12,y13,y14,y15]=false) (hc:qo (qF 13 false [x0,x1,x2,x3,x4,x5,x6,x7,x8,x9,x10,x11,x12,x13,x14,x15,y0,y1,y2,y3,y4,y5,y6,y7,y8,y9,y10,y11,y12,y13,y14,y15])=0):qi1 (qF 13 false [x0,x1,x2,x3,x4,x5,x6,x7,x8,x9,x10,x11,x12,x13,x14,x15,y0,y1,y2,y3,y4,y5,y6,y7,y8,y9,y10,y11,y12,y13,y14,y15]) [x0,x1,x2,x3,x4,x5,x6,x7,x8,x9,x10,x11,x12,x13,x14,x15] [y0,y1,y2,y3,y4,y5,y6,y7,y8,y9,y10,y11,y12,y13,y14,y15]∧(qF 13 false [x0,x1,x2,x3,x4,x5,x6,x7,x8,x9,x10,x11,x12,x13,x14,x15,y0,y1,y2,y3,y4,y5,y6,y7,y8,y9,y10,y11,y12,y13,y14,y15]).1=13∧(qF 13 false [x0,x1,x2,x3,x4,x5,x6,x7,x8,x9,x10,x11,x12,x13,x14,x15,y0,y1,y2,y3,y4,y5,y6,y7,y8,y9,y10,y11,y12,y13,y14,y15]).2.2.2.2.2.2.2.1=false:=by
 have hb:(fx 49 x0||(fx 49 x1||(fx 49 x2||(fx 48 x3||(fx 49 x4||(fx 48 x5||(fx 49 x6||(fx 48 x7||(fx 49 x8||(fx 48 x9||(fx 48 x10||(fx 48 x11||(fx 110 x12||(fx 110 x13||(fx 110 x14||(fx 110 x15||(fx 48 y0||(fx 48 y1||(fx 48 y2||(fx 48 y3||(fx 100 y4||(fx 100 y5||(fx 100 y6||(fx 100 y7||(fx 48 y8||(fx 48 y9||(fx 48 y10||(fx 48 y11||(fx 109 y12||(fx 109 y13||(fx 109 y14||(fx 109 y15||false))))))))))))))))))))))))))))))))=false:=hb
 simp only[Bool.or_eq_false_iff] at hb
 obtain⟨h0,h1,h2,h3,h4,h5,h6,h7,h8,h9,h10,h11,_,_,_,_,h16,h17,h18,h19,_,_,_,_,h24,h25,h26,h27,_,_,_,_,_⟩:=hb
 obtain rfl:=qz h0
 obtain rfl:=qz h1
 obtain rfl:=qz h2
 obtain rfl:=qu h3
 obtain rfl:=qz h4
 obtain rfl:=qu h5
 obtain rfl:=qz h6
 obtain rfl:=qu h7
 obtain rfl:=qz h8
 obtain rfl:=qu h9
 obtain rfl:=qu h10
 obtain rfl:=qu h11
 obtain rfl:=qu h16
 obtain rfl:=qu h17
 obtain rfl:=qu h18
 obtain rfl:=qu h19
 obtain rfl:=qu h24
 obtain rfl:=qu h25
 obtain rfl:=qu h26
 obtain rfl:=qu h27
 have q:=qO4 x12 x13 x14 x15 y4 y5 y6 y7 y12 y13 y14 y15
 rw[q] at hc
 have f:=qca hc
 rw[q]
 exact⟨⟨13,_,_,_,_,_,_,false,rfl,q,qPb x12 x13 x14 x15 y4 y5 y6 y7 y12 y13 y14 y15 f.1 f.2.1 f.2.2.1⟩,rfl,rfl⟩
theorem qS0 (x0 x1 x2 x3 x4 x5 x6 x7 x8 x9 x10 x11 x12 x13 x14 x15 y0 y1 y2 y3 y4 y5 y6 y7 y8 y9 y10 y11 y12 y13 y14 y15:Bool) (hb:qes 14 false [x0,x1,x2,x3,x4,x5,x6,x7,x8,x9,x10,x11,x12,x13,x14,x15,y0,y1,y2,y3,y4,y5,y6,y7,y8,y9,y10,y11,y12,y13,y14,y15]=false) (hc:qo (qF 14 false [x0,x1,x2,x3,x4,x5,x6,x7,x8,x9,x10,x11,x12,x13,x14,x15,y0,y1,y2,y3,y4,y5,y6,y7,y8,y9,y10,y11,y12,y13,y14,y15])=0):qi1 (qF 14 false [x0,x1,x2,x3,x4,x5,x6,x7,x8,x9,x10,x11,x12,x13,x14,x15,y0,y1,y2,y3,y4,y5,y6,y7,y8,y9,y10,y11,y12,y13,y14,y15]) [x0,x1,x2,x3,x4,x5,x6,x7,x8,x9,x10,x11,x12,x13,x14,x15] [y0,y1,y2,y3,y4,y5,y6,y7,y8,y9,y10,y11,y12,y13,y14,y15]∧(qF 14 false [x0,x1,x2,x3,x4,x5,x6,x7,x8,x9,x10,x11,x12,x13,x14,x15,y0,y1,y2,y3,y4,y5,y6,y7,y8,y9,y10,y11,y12,y13,y14,y15]).1=14∧(qF 14 false [x0,x1,x2,x3,x4,x5,x6,x7,x8,x9,x10,x11,x12,x13,x14,x15,y0,y1,y2,y3,y4,y5,y6,y7,y8,y9,y10,y11,y12,y13,y14,y15]).2.2.2.2.2.2.2.1=false:=by
 have hb:(fx 49 x0||(fx 49 x1||(fx 49 x2||(fx 48 x3||(fx 49 x4||(fx 48 x5||(fx 49 x6||(fx 49 x7||(fx 48 x8||(fx 48 x9||(fx 48 x10||(fx 48 x11||(fx 110 x12||(fx 110 x13||(fx 110 x14||(fx 110 x15||(fx 48 y0||(fx 48 y1||(fx 48 y2||(fx 48 y3||(fx 100 y4||(fx 100 y5||(fx 100 y6||(fx 100 y7||(fx 48 y8||(fx 48 y9||(fx 48 y10||(fx 48 y11||(fx 109 y12||(fx 109 y13||(fx 109 y14||(fx 109 y15||false))))))))))))))))))))))))))))))))=false:=hb
 simp only[Bool.or_eq_false_iff] at hb
 obtain⟨h0,h1,h2,h3,h4,h5,h6,h7,h8,h9,h10,h11,_,_,_,_,h16,h17,h18,h19,_,_,_,_,h24,h25,h26,h27,_,_,_,_,_⟩:=hb
 obtain rfl:=qz h0
 obtain rfl:=qz h1
 obtain rfl:=qz h2
 obtain rfl:=qu h3
 obtain rfl:=qz h4
 obtain rfl:=qu h5
 obtain rfl:=qz h6
 obtain rfl:=qz h7
 obtain rfl:=qu h8
 obtain rfl:=qu h9
 obtain rfl:=qu h10
 obtain rfl:=qu h11
 obtain rfl:=qu h16
 obtain rfl:=qu h17
 obtain rfl:=qu h18
 obtain rfl:=qu h19
 obtain rfl:=qu h24
 obtain rfl:=qu h25
 obtain rfl:=qu h26
 obtain rfl:=qu h27
 have q:=qPi x12 x13 x14 x15 y4 y5 y6 y7 y12 y13 y14 y15
 rw[q] at hc
 have f:=qca hc
 rw[q]
 exact⟨⟨14,_,_,_,_,_,_,false,rfl,q,qPl x12 x13 x14 x15 y4 y5 y6 y7 y12 y13 y14 y15 f.1 f.2.1 f.2.2.1⟩,rfl,rfl⟩
theorem qS8 (x0 x1 x2 x3 x4 x5 x6 x7 x8 x9 x10 x11 x12 x13 x14 x15 y0 y1 y2 y3 y4 y5 y6 y7 y8 y9 y10 y11 y12 y13 y14 y15:Bool) (hb:qes 15 false [x0,x1,x2,x3,x4,x5,x6,x7,x8,x9,x10,x11,x12,x13,x14,x15,y0,y1,y2,y3,y4,y5,y6,y7,y8,y9,y10,y11,y12,y13,y14,y15]=false) (hc:qo (qF 15 false [x0,x1,x2,x3,x4,x5,x6,x7,x8,x9,x10,x11,x12,x13,x14,x15,y0,y1,y2,y3,y4,y5,y6,y7,y8,y9,y10,y11,y12,y13,y14,y15])=0):qi1 (qF 15 false [x0,x1,x2,x3,x4,x5,x6,x7,x8,x9,x10,x11,x12,x13,x14,x15,y0,y1,y2,y3,y4,y5,y6,y7,y8,y9,y10,y11,y12,y13,y14,y15]) [x0,x1,x2,x3,x4,x5,x6,x7,x8,x9,x10,x11,x12,x13,x14,x15] [y0,y1,y2,y3,y4,y5,y6,y7,y8,y9,y10,y11,y12,y13,y14,y15]∧(qF 15 false [x0,x1,x2,x3,x4,x5,x6,x7,x8,x9,x10,x11,x12,x13,x14,x15,y0,y1,y2,y3,y4,y5,y6,y7,y8,y9,y10,y11,y12,y13,y14,y15]).1=15∧(qF 15 false [x0,x1,x2,x3,x4,x5,x6,x7,x8,x9,x10,x11,x12,x13,x14,x15,y0,y1,y2,y3,y4,y5,y6,y7,y8,y9,y10,y11,y12,y13,y14,y15]).2.2.2.2.2.2.2.1=false:=by
 have hb:(fx 49 x0||(fx 49 x1||(fx 49 x2||(fx 48 x3||(fx 49 x4||(fx 48 x5||(fx 49 x6||(fx 49 x7||(fx 49 x8||(fx 48 x9||(fx 49 x10||(fx 48 x11||(fx 110 x12||(fx 110 x13||(fx 110 x14||(fx 110 x15||(fx 48 y0||(fx 48 y1||(fx 48 y2||(fx 48 y3||(fx 100 y4||(fx 100 y5||(fx 100 y6||(fx 100 y7||(fx 48 y8||(fx 48 y9||(fx 48 y10||(fx 48 y11||(fx 109 y12||(fx 109 y13||(fx 109 y14||(fx 109 y15||false))))))))))))))))))))))))))))))))=false:=hb
 simp only[Bool.or_eq_false_iff] at hb
 obtain⟨h0,h1,h2,h3,h4,h5,h6,h7,h8,h9,h10,h11,_,_,_,_,h16,h17,h18,h19,_,_,_,_,h24,h25,h26,h27,_,_,_,_,_⟩:=hb
 obtain rfl:=qz h0
 obtain rfl:=qz h1
 obtain rfl:=qz h2
 obtain rfl:=qu h3
 obtain rfl:=qz h4
 obtain rfl:=qu h5
 obtain rfl:=qz h6
 obtain rfl:=qz h7
 obtain rfl:=qz h8
 obtain rfl:=qu h9
 obtain rfl:=qz h10
 obtain rfl:=qu h11
 obtain rfl:=qu h16
 obtain rfl:=qu h17
 obtain rfl:=qu h18
 obtain rfl:=qu h19
 obtain rfl:=qu h24
 obtain rfl:=qu h25
 obtain rfl:=qu h26
 obtain rfl:=qu h27
 have q:=qPo x12 x13 x14 x15 y4 y5 y6 y7 y12 y13 y14 y15
 rw[q] at hc
 have f:=qca hc
 rw[q]
 exact⟨⟨15,_,_,_,_,_,_,false,rfl,q,qPn x12 x13 x14 x15 y4 y5 y6 y7 y12 y13 y14 y15 f.1 f.2.1 f.2.2.1⟩,rfl,rfl⟩
theorem qSU (x0 x1 x2 x3 x4 x5 x6 x7 x8 x9 x10 x11 x12 x13 x14 x15 y0 y1 y2 y3 y4 y5 y6 y7 y8 y9 y10 y11 y12 y13 y14 y15:Bool) (hb:qes 16 false [x0,x1,x2,x3,x4,x5,x6,x7,x8,x9,x10,x11,x12,x13,x14,x15,y0,y1,y2,y3,y4,y5,y6,y7,y8,y9,y10,y11,y12,y13,y14,y15]=false) (hc:qo (qF 16 false [x0,x1,x2,x3,x4,x5,x6,x7,x8,x9,x10,x11,x12,x13,x14,x15,y0,y1,y2,y3,y4,y5,y6,y7,y8,y9,y10,y11,y12,y13,y14,y15])=0):qi1 (qF 16 false [x0,x1,x2,x3,x4,x5,x6,x7,x8,x9,x10,x11,x12,x13,x14,x15,y0,y1,y2,y3,y4,y5,y6,y7,y8,y9,y10,y11,y12,y13,y14,y15]) [x0,x1,x2,x3,x4,x5,x6,x7,x8,x9,x10,x11,x12,x13,x14,x15] [y0,y1,y2,y3,y4,y5,y6,y7,y8,y9,y10,y11,y12,y13,y14,y15]∧(qF 16 false [x0,x1,x2,x3,x4,x5,x6,x7,x8,x9,x10,x11,x12,x13,x14,x15,y0,y1,y2,y3,y4,y5,y6,y7,y8,y9,y10,y11,y12,y13,y14,y15]).1=16∧(qF 16 false [x0,x1,x2,x3,x4,x5,x6,x7,x8,x9,x10,x11,x12,x13,x14,x15,y0,y1,y2,y3,y4,y5,y6,y7,y8,y9,y10,y11,y12,y13,y14,y15]).2.2.2.2.2.2.2.1=false:=by
 have hb:(fx 49 x0||(fx 49 x1||(fx 49 x2||(fx 49 x3||(fx 49 x4||(fx 48 x5||(fx 49 x6||(fx 49 x7||(fx 48 x8||(fx 48 x9||(fx 48 x10||(fx 48 x11||(fx 110 x12||(fx 110 x13||(fx 110 x14||(fx 110 x15||(fx 49 y0||(fx 49 y1||(fx 49 y2||(fx 49 y3||(fx 100 y4||(fx 100 y5||(fx 100 y6||(fx 100 y7||(fx 48 y8||(fx 48 y9||(fx 48 y10||(fx 48 y11||(fx 109 y12||(fx 109 y13||(fx 109 y14||(fx 109 y15||false))))))))))))))))))))))))))))))))=false:=hb
 simp only[Bool.or_eq_false_iff] at hb
 obtain⟨h0,h1,h2,h3,h4,h5,h6,h7,h8,h9,h10,h11,_,_,_,_,h16,h17,h18,h19,_,_,_,_,h24,h25,h26,h27,_,_,_,_,_⟩:=hb
 obtain rfl:=qz h0
 obtain rfl:=qz h1
 obtain rfl:=qz h2
 obtain rfl:=qz h3
 obtain rfl:=qz h4
 obtain rfl:=qu h5
 obtain rfl:=qz h6
 obtain rfl:=qz h7
 obtain rfl:=qu h8
 obtain rfl:=qu h9
 obtain rfl:=qu h10
 obtain rfl:=qu h11
 obtain rfl:=qz h16
 obtain rfl:=qz h17
 obtain rfl:=qz h18
 obtain rfl:=qz h19
 obtain rfl:=qu h24
 obtain rfl:=qu h25
 obtain rfl:=qu h26
 obtain rfl:=qu h27
 have q:=qPs x12 x13 x14 x15 y4 y5 y6 y7 y12 y13 y14 y15
 rw[q] at hc
 have f:=qca hc
 rw[q]
 exact⟨⟨16,_,_,_,_,_,_,false,rfl,q,qPx x12 x13 x14 x15 y4 y5 y6 y7 y12 y13 y14 y15 f.1 f.2.1 f.2.2.1⟩,rfl,rfl⟩
theorem qS3 (x0 x1 x2 x3 x4 x5 x6 x7 x8 x9 x10 x11 x12 x13 x14 x15 y0 y1 y2 y3 y4 y5 y6 y7 y8 y9 y10 y11 y12 y13 y14 y15:Bool) (hb:qes 17 false [x0,x1,x2,x3,x4,x5,x6,x7,x8,x9,x10,x11,x12,x13,x14,x15,y0,y1,y2,y3,y4,y5,y6,y7,y8,y9,y10,y11,y12,y13,y14,y15]=false) (hc:qo (qF 17 false [x0,x1,x2,x3,x4,x5,x6,x7,x8,x9,x10,x11,x12,x13,x14,x15,y0,y1,y2,y3,y4,y5,y6,y7,y8,y9,y10,y11,y12,y13,y14,y15])=0):qi1 (qF 17 false [x0,x1,x2,x3,x4,x5,x6,x7,x8,x9,x10,x11,x12,x13,x14,x15,y0,y1,y2,y3,y4,y5,y6,y7,y8,y9,y10,y11,y12,y13,y14,y15]) [x0,x1,x2,x3,x4,x5,x6,x7,x8,x9,x10,x11,x12,x13,x14,x15] [y0,y1,y2,y3,y4,y5,y6,y7,y8,y9,y10,y11,y12,y13,y14,y15]∧(qF 17 false [x0,x1,x2,x3,x4,x5,x6,x7,x8,x9,x10,x11,x12,x13,x14,x15,y0,y1,y2,y3,y4,y5,y6,y7,y8,y9,y10,y11,y12,y13,y14,y15]).1=17∧(qF 17 false [x0,x1,x2,x3,x4,x5,x6,x7,x8,x9,x10,x11,x12,x13,x14,x15,y0,y1,y2,y3,y4,y5,y6,y7,y8,y9,y10,y11,y12,y13,y14,y15]).2.2.2.2.2.2.2.1=false:=by
 have hb:(fx 49 x0||(fx 49 x1||(fx 49 x2||(fx 49 x3||(fx 49 x4||(fx 48 x5||(fx 49 x6||(fx 49 x7||(fx 49 x8||(fx 48 x9||(fx 49 x10||(fx 48 x11||(fx 110 x12||(fx 110 x13||(fx 110 x14||(fx 110 x15||(fx 100 y0||(fx 100 y1||(fx 100 y2||(fx 100 y3||(fx 97 y4||(fx 97 y5||(fx 97 y6||(fx 97 y7||(fx 48 y8||(fx 48 y9||(fx 48 y10||(fx 48 y11||(fx 109 y12||(fx 109 y13||(fx 109 y14||(fx 109 y15||false))))))))))))))))))))))))))))))))=false:=hb
 simp only[Bool.or_eq_false_iff] at hb
 obtain⟨h0,h1,h2,h3,h4,h5,h6,h7,h8,h9,h10,h11,_,_,_,_,_,_,_,_,_,_,_,_,h24,h25,h26,h27,_,_,_,_,_⟩:=hb
 obtain rfl:=qz h0
 obtain rfl:=qz h1
 obtain rfl:=qz h2
 obtain rfl:=qz h3
 obtain rfl:=qz h4
 obtain rfl:=qu h5
 obtain rfl:=qz h6
 obtain rfl:=qz h7
 obtain rfl:=qz h8
 obtain rfl:=qu h9
 obtain rfl:=qz h10
 obtain rfl:=qu h11
 obtain rfl:=qu h24
 obtain rfl:=qu h25
 obtain rfl:=qu h26
 obtain rfl:=qu h27
 have q:=qO3 x12 x13 x14 x15 y0 y1 y2 y3 y4 y5 y6 y7 y12 y13 y14 y15
 rw[q] at hc
 have f:=qca hc
 rw[q]
 exact⟨⟨17,_,_,_,_,_,_,false,rfl,q,qO0 x12 x13 x14 x15 y0 y1 y2 y3 y4 y5 y6 y7 y12 y13 y14 y15 f.1 f.2.1 f.2.2.1 (f.2.2.2.1 rfl).1 (f.2.2.2.1 rfl).2⟩,rfl,rfl⟩
theorem qSP (x0 x1 x2 x3 x4 x5 x6 x7 x8 x9 x10 x11 x12 x13 x14 x15 y0 y1 y2 y3 y4 y5 y6 y7 y8 y9 y10 y11 y12 y13 y14 y15:Bool) (hb:qes 18 false [x0,x1,x2,x3,x4,x5,x6,x7,x8,x9,x10,x11,x12,x13,x14,x15,y0,y1,y2,y3,y4,y5,y6,y7,y8,y9,y10,y11,y12,y13,y14,y15]=false) (hc:qo (qF 18 false [x0,x1,x2,x3,x4,x5,x6,x7,x8,x9,x10,x11,x12,x13,x14,x15,y0,y1,y2,y3,y4,y5,y6,y7,y8,y9,y10,y11,y12,y13,y14,y15])=0):qi1 (qF 18 false [x0,x1,x2,x3,x4,x5,x6,x7,x8,x9,x10,x11,x12,x13,x14,x15,y0,y1,y2,y3,y4,y5,y6,y7,y8,y9,y10,y11,y12,y13,y14,y15]) [x0,x1,x2,x3,x4,x5,x6,x7,x8,x9,x10,x11,x12,x13,x14,x15] [y0,y1,y2,y3,y4,y5,y6,y7,y8,y9,y10,y11,y12,y13,y14,y15]∧(qF 18 false [x0,x1,x2,x3,x4,x5,x6,x7,x8,x9,x10,x11,x12,x13,x14,x15,y0,y1,y2,y3,y4,y5,y6,y7,y8,y9,y10,y11,y12,y13,y14,y15]).1=18∧(qF 18 false [x0,x1,x2,x3,x4,x5,x6,x7,x8,x9,x10,x11,x12,x13,x14,x15,y0,y1,y2,y3,y4,y5,y6,y7,y8,y9,y10,y11,y12,y13,y14,y15]).2.2.2.2.2.2.2.1=false:=by
 have hb:(fx 49 x0||(fx 49 x1||(fx 49 x2||(fx 49 x3||(fx 48 x4||(fx 48 x5||(fx 49 x6||(fx 49 x7||(fx 48 x8||(fx 49 x9||(fx 49 x10||(fx 48 x11||(fx 110 x12||(fx 110 x13||(fx 110 x14||(fx 110 x15||(fx 48 y0||(fx 69 y1||(fx 68 y2||(fx 67 y3||(fx 100 y4||(fx 100 y5||(fx 100 y6||(fx 100 y7||(fx 66 y8||(fx 65 y9||(fx 48 y10||(fx 119 y11||(fx 119 y12||(fx 119 y13||(fx 119 y14||(fx 119 y15||false))))))))))))))))))))))))))))))))=false:=hb
 simp only[Bool.or_eq_false_iff] at hb
 obtain⟨h0,h1,h2,h3,h4,h5,h6,h7,h8,h9,h10,h11,_,_,_,_,h16,_,_,_,_,_,_,_,_,_,h26,_,_,_,_,_,_⟩:=hb
 obtain rfl:=qz h0
 obtain rfl:=qz h1
 obtain rfl:=qz h2
 obtain rfl:=qz h3
 obtain rfl:=qu h4
 obtain rfl:=qu h5
 obtain rfl:=qz h6
 obtain rfl:=qz h7
 obtain rfl:=qu h8
 obtain rfl:=qz h9
 obtain rfl:=qz h10
 obtain rfl:=qu h11
 obtain rfl:=qu h16
 obtain rfl:=qu h26
 have q:=qPy x12 x13 x14 x15 y1 y2 y3 y4 y5 y6 y7 y8 y9 y11 y12 y13 y14 y15
 rw[q] at hc
 have f:=qca hc
 rw[q]
 exact⟨⟨18,_,_,_,_,_,_,false,rfl,q,qPj x12 x13 x14 x15 y1 y2 y3 y4 y5 y6 y7 y8 y9 y11 y12 y13 y14 y15 f.1 f.2.1 (f.2.2.2.2.1 rfl)⟩,rfl,rfl⟩
theorem qSO (x0 x1 x2 x3 x4 x5 x6 x7 x8 x9 x10 x11 x12 x13 x14 x15:Bool) (hb:qes 19 false [x0,x1,x2,x3,x4,x5,x6,x7,x8,x9,x10,x11,x12,x13,x14,x15]=false) (hc:qo (qF 19 false [x0,x1,x2,x3,x4,x5,x6,x7,x8,x9,x10,x11,x12,x13,x14,x15])=0):qrz (qF 19 false [x0,x1,x2,x3,x4,x5,x6,x7,x8,x9,x10,x11,x12,x13,x14,x15]) [x0,x1,x2,x3,x4,x5,x6,x7,x8,x9,x10,x11,x12,x13,x14,x15]∧(qF 19 false [x0,x1,x2,x3,x4,x5,x6,x7,x8,x9,x10,x11,x12,x13,x14,x15]).1=19∧(qF 19 false [x0,x1,x2,x3,x4,x5,x6,x7,x8,x9,x10,x11,x12,x13,x14,x15]).2.2.2.2.2.2.2.1=false:=by
 have hb:(fx 48 x0||(fx 49 x1||(fx 49 x2||(fx 48 x3||(fx 49 x4||(fx 48 x5||(fx 48 x6||(fx 48 x7||(fx 48 x8||(fx 48 x9||(fx 110 x10||(fx 110 x11||(fx 110 x12||(fx 100 x13||(fx 100 x14||(fx 100 x15||false))))))))))))))))=false:=hb
 simp only[Bool.or_eq_false_iff] at hb
 obtain⟨h0,h1,h2,h3,h4,h5,h6,h7,h8,h9,_,_,_,_,_,_,_⟩:=hb
 obtain rfl:=qu h0
 obtain rfl:=qz h1
 obtain rfl:=qz h2
 obtain rfl:=qu h3
 obtain rfl:=qz h4
 obtain rfl:=qu h5
 obtain rfl:=qu h6
 obtain rfl:=qu h7
 obtain rfl:=qu h8
 obtain rfl:=qu h9
 have q:=qPm x10 x11 x12 x13 x14 x15
 rw[q] at hc
 have f:=qca hc
 rw[q]
 exact⟨⟨19,_,_,_,_,_,_,false,rfl,q,qO7 x10 x11 x12 x13 x14 x15⟩,rfl,rfl⟩
theorem qSS (x0 x1 x2 x3 x4 x5 x6 x7 x8 x9 x10 x11 x12 x13 x14 x15:Bool) (hb:qes 20 false [x0,x1,x2,x3,x4,x5,x6,x7,x8,x9,x10,x11,x12,x13,x14,x15]=false) (hc:qo (qF 20 false [x0,x1,x2,x3,x4,x5,x6,x7,x8,x9,x10,x11,x12,x13,x14,x15])=0):qrz (qF 20 false [x0,x1,x2,x3,x4,x5,x6,x7,x8,x9,x10,x11,x12,x13,x14,x15]) [x0,x1,x2,x3,x4,x5,x6,x7,x8,x9,x10,x11,x12,x13,x14,x15]∧(qF 20 false [x0,x1,x2,x3,x4,x5,x6,x7,x8,x9,x10,x11,x12,x13,x14,x15]).1=20∧(qF 20 false [x0,x1,x2,x3,x4,x5,x6,x7,x8,x9,x10,x11,x12,x13,x14,x15]).2.2.2.2.2.2.2.1=false:=by
 have hb:(fx 48 x0||(fx 49 x1||(fx 49 x2||(fx 48 x3||(fx 48 x4||(fx 48 x5||(fx 48 x6||(fx 48 x7||(fx 48 x8||(fx 48 x9||(fx 110 x10||(fx 110 x11||(fx 110 x12||(fx 100 x13||(fx 100 x14||(fx 100 x15||false))))))))))))))))=false:=hb
 simp only[Bool.or_eq_false_iff] at hb
 obtain⟨h0,h1,h2,h3,h4,h5,h6,h7,h8,h9,_,_,_,_,_,_,_⟩:=hb
 obtain rfl:=qu h0
 obtain rfl:=qz h1
 obtain rfl:=qz h2
 obtain rfl:=qu h3
 obtain rfl:=qu h4
 obtain rfl:=qu h5
 obtain rfl:=qu h6
 obtain rfl:=qu h7
 obtain rfl:=qu h8
 obtain rfl:=qu h9
 have q:=qPk x10 x11 x12 x13 x14 x15
 rw[q] at hc
 have f:=qca hc
 rw[q]
 exact⟨⟨20,_,_,_,_,_,_,false,rfl,q,qPc x10 x11 x12 x13 x14 x15⟩,rfl,rfl⟩
theorem qS1 (x0 x1 x2 x3 x4 x5 x6 x7 x8 x9 x10 x11 x12 x13 x14 x15:Bool) (hb:qes 21 false [x0,x1,x2,x3,x4,x5,x6,x7,x8,x9,x10,x11,x12,x13,x14,x15]=false) (hc:qo (qF 21 false [x0,x1,x2,x3,x4,x5,x6,x7,x8,x9,x10,x11,x12,x13,x14,x15])=0):qrz (qF 21 false [x0,x1,x2,x3,x4,x5,x6,x7,x8,x9,x10,x11,x12,x13,x14,x15]) [x0,x1,x2,x3,x4,x5,x6,x7,x8,x9,x10,x11,x12,x13,x14,x15]∧(qF 21 false [x0,x1,x2,x3,x4,x5,x6,x7,x8,x9,x10,x11,x12,x13,x14,x15]).1=21∧(qF 21 false [x0,x1,x2,x3,x4,x5,x6,x7,x8,x9,x10,x11,x12,x13,x14,x15]).2.2.2.2.2.2.2.1=false:=by
 have hb:(fx 48 x0||(fx 49 x1||(fx 49 x2||(fx 49 x3||(fx 49 x4||(fx 48 x5||(fx 48 x6||(fx 48 x7||(fx 48 x8||(fx 48 x9||(fx 110 x10||(fx 110 x11||(fx 110 x12||(fx 100 x13||(fx 100 x14||(fx 100 x15||false))))))))))))))))=false:=hb
 simp only[Bool.or_eq_false_iff] at hb
 obtain⟨h0,h1,h2,h3,h4,h5,h6,h7,h8,h9,_,_,_,_,_,_,_⟩:=hb
 obtain rfl:=qu h0
 obtain rfl:=qz h1
 obtain rfl:=qz h2
 obtain rfl:=qz h3
 obtain rfl:=qz h4
 obtain rfl:=qu h5
 obtain rfl:=qu h6
 obtain rfl:=qu h7
 obtain rfl:=qu h8
 obtain rfl:=qu h9
 have q:=qO1 x10 x11 x12 x13 x14 x15
 rw[q] at hc
 have f:=qca hc
 rw[q]
 exact⟨⟨21,_,_,_,_,_,_,false,rfl,q,qPv x10 x11 x12 x13 x14 x15⟩,rfl,rfl⟩
theorem qSV (x0 x1 x2 x3 x4 x5 x6 x7 x8 x9 x10 x11 x12 x13 x14 x15:Bool) (hb:qes 22 false [x0,x1,x2,x3,x4,x5,x6,x7,x8,x9,x10,x11,x12,x13,x14,x15]=false) (hc:qo (qF 22 false [x0,x1,x2,x3,x4,x5,x6,x7,x8,x9,x10,x11,x12,x13,x14,x15])=0):qrz (qF 22 false [x0,x1,x2,x3,x4,x5,x6,x7,x8,x9,x10,x11,x12,x13,x14,x15]) [x0,x1,x2,x3,x4,x5,x6,x7,x8,x9,x10,x11,x12,x13,x14,x15]∧(qF 22 false [x0,x1,x2,x3,x4,x5,x6,x7,x8,x9,x10,x11,x12,x13,x14,x15]).1=22∧(qF 22 false [x0,x1,x2,x3,x4,x5,x6,x7,x8,x9,x10,x11,x12,x13,x14,x15]).2.2.2.2.2.2.2.1=false:=by
 have hb:(fx 48 x0||(fx 49 x1||(fx 49 x2||(fx 49 x3||(fx 48 x4||(fx 48 x5||(fx 48 x6||(fx 48 x7||(fx 48 x8||(fx 48 x9||(fx 110 x10||(fx 110 x11||(fx 110 x12||(fx 100 x13||(fx 100 x14||(fx 100 x15||false))))))))))))))))=false:=hb
 simp only[Bool.or_eq_false_iff] at hb
 obtain⟨h0,h1,h2,h3,h4,h5,h6,h7,h8,h9,_,_,_,_,_,_,_⟩:=hb
 obtain rfl:=qu h0
 obtain rfl:=qz h1
 obtain rfl:=qz h2
 obtain rfl:=qz h3
 obtain rfl:=qu h4
 obtain rfl:=qu h5
 obtain rfl:=qu h6
 obtain rfl:=qu h7
 obtain rfl:=qu h8
 obtain rfl:=qu h9
 have q:=qPh x10 x11 x12 x13 x14 x15
 rw[q] at hc
 have f:=qca hc
 rw[q]
 exact⟨⟨22,_,_,_,_,_,_,false,rfl,q,qPA x10 x11 x12 x13 x14 x15⟩,rfl,rfl⟩
theorem qSH (x0 x1 x2 x3 x4 x5 x6 x7 x8 x9 x10 x11 x12 x13 x14 x15:Bool) (hb:qes 23 false [x0,x1,x2,x3,x4,x5,x6,x7,x8,x9,x10,x11,x12,x13,x14,x15]=false) (hc:qo (qF 23 false [x0,x1,x2,x3,x4,x5,x6,x7,x8,x9,x10,x11,x12,x13,x14,x15])=0):qrz (qF 23 false [x0,x1,x2,x3,x4,x5,x6,x7,x8,x9,x10,x11,x12,x13,x14,x15]) [x0,x1,x2,x3,x4,x5,x6,x7,x8,x9,x10,x11,x12,x13,x14,x15]∧(qF 23 false [x0,x1,x2,x3,x4,x5,x6,x7,x8,x9,x10,x11,x12,x13,x14,x15]).1=23∧(qF 23 false [x0,x1,x2,x3,x4,x5,x6,x7,x8,x9,x10,x11,x12,x13,x14,x15]).2.2.2.2.2.2.2.1=false:=by
 have hb:(fx 48 x0||(fx 49 x1||(fx 48 x2||(fx 48 x3||(fx 48 x4||(fx 48 x5||(fx 49 x6||(fx 48 x7||(fx 49 x8||(fx 48 x9||(fx 109 x10||(fx 109 x11||(fx 109 x12||(fx 110 x13||(fx 110 x14||(fx 110 x15||false))))))))))))))))=false:=hb
 simp only[Bool.or_eq_false_iff] at hb
 obtain⟨h0,h1,h2,h3,h4,h5,h6,h7,h8,h9,_,_,_,_,_,_,_⟩:=hb
 obtain rfl:=qu h0
 obtain rfl:=qz h1
 obtain rfl:=qu h2
 obtain rfl:=qu h3
 obtain rfl:=qu h4
 obtain rfl:=qu h5
 obtain rfl:=qz h6
 obtain rfl:=qu h7
 obtain rfl:=qz h8
 obtain rfl:=qu h9
 have q:=qO2 x10 x11 x12 x13 x14 x15
 rw[q] at hc
 have f:=qca hc
 rw[q]
 exact⟨⟨23,_,_,_,_,_,_,false,rfl,q,qO6 x10 x11 x12 x13 x14 x15⟩,rfl,rfl⟩
theorem qSZ (x0 x1 x2 x3 x4 x5 x6 x7 x8 x9 x10 x11 x12 x13 x14 x15:Bool) (hb:qes 24 false [x0,x1,x2,x3,x4,x5,x6,x7,x8,x9,x10,x11,x12,x13,x14,x15]=false) (hc:qo (qF 24 false [x0,x1,x2,x3,x4,x5,x6,x7,x8,x9,x10,x11,x12,x13,x14,x15])=0):qrz (qF 24 false [x0,x1,x2,x3,x4,x5,x6,x7,x8,x9,x10,x11,x12,x13,x14,x15]) [x0,x1,x2,x3,x4,x5,x6,x7,x8,x9,x10,x11,x12,x13,x14,x15]∧(qF 24 false [x0,x1,x2,x3,x4,x5,x6,x7,x8,x9,x10,x11,x12,x13,x14,x15]).1=24∧(qF 24 false [x0,x1,x2,x3,x4,x5,x6,x7,x8,x9,x10,x11,x12,x13,x14,x15]).2.2.2.2.2.2.2.1=false:=by
 have hb:(fx 49 x0||(fx 49 x1||(fx 49 x2||(fx 48 x3||(fx 48 x4||(fx 76 x5||(fx 75 x6||(fx 74 x7||(fx 73 x8||(fx 72 x9||(fx 71 x10||(fx 70 x11||(fx 69 x12||(fx 68 x13||(fx 67 x14||(fx 66 x15||false))))))))))))))))=false:=hb
 simp only[Bool.or_eq_false_iff] at hb
 obtain⟨h0,h1,h2,h3,h4,_,_,_,_,_,_,_,_,_,_,_,_⟩:=hb
 obtain rfl:=qz h0
 obtain rfl:=qz h1
 obtain rfl:=qz h2
 obtain rfl:=qu h3
 obtain rfl:=qu h4
 have q:=qO5 x5 x6 x7 x8 x9 x10 x11 x12 x13 x14 x15
 rw[q] at hc
 have f:=qca hc
 rw[q]
 exact⟨⟨24,_,_,_,_,_,_,false,rfl,q,qPd x5 x6 x7 x8 x9 x10 x11 x12 x13 x14 x15⟩,rfl,rfl⟩
theorem qQ4 (x0 x1 x2 x3 x4 x5 x6 x7 x8 x9 x10 x11 x12 x13 x14 x15 y0 y1 y2 y3 y4 y5 y6 y7 y8 y9 y10 y11 y12 y13 y14 y15:Bool) (hb:qes 24 true [x0,x1,x2,x3,x4,x5,x6,x7,x8,x9,x10,x11,x12,x13,x14,x15,y0,y1,y2,y3,y4,y5,y6,y7,y8,y9,y10,y11,y12,y13,y14,y15]=false) (hc:qo (qF 24 true [x0,x1,x2,x3,x4,x5,x6,x7,x8,x9,x10,x11,x12,x13,x14,x15,y0,y1,y2,y3,y4,y5,y6,y7,y8,y9,y10,y11,y12,y13,y14,y15])=0):qi1 (qF 24 true [x0,x1,x2,x3,x4,x5,x6,x7,x8,x9,x10,x11,x12,x13,x14,x15,y0,y1,y2,y3,y4,y5,y6,y7,y8,y9,y10,y11,y12,y13,y14,y15]) [x0,x1,x2,x3,x4,x5,x6,x7,x8,x9,x10,x11,x12,x13,x14,x15] [y0,y1,y2,y3,y4,y5,y6,y7,y8,y9,y10,y11,y12,y13,y14,y15]∧(qF 24 true [x0,x1,x2,x3,x4,x5,x6,x7,x8,x9,x10,x11,x12,x13,x14,x15,y0,y1,y2,y3,y4,y5,y6,y7,y8,y9,y10,y11,y12,y13,y14,y15]).1=24∧(qF 24 true [x0,x1,x2,x3,x4,x5,x6,x7,x8,x9,x10,x11,x12,x13,x14,x15,y0,y1,y2,y3,y4,y5,y6,y7,y8,y9,y10,y11,y12,y13,y14,y15]).2.2.2.2.2.2.2.1=true:=by
 have hb:(fx 49 x0||(fx 49 x1||(fx 49 x2||(fx 49 x3||(fx 48 x4||(fx 89 x5||(fx 86 x6||(fx 85 x7||(fx 84 x8||(fx 83 x9||(fx 82 x10||(fx 81 x11||(fx 80 x12||(fx 79 x13||(fx 78 x14||(fx 77 x15||(fx 49 y0||(fx 48 y1||(fx 120 y2||(fx 49 y3||(fx 121 y4||(fx 76 y5||(fx 75 y6||(fx 74 y7||(fx 73 y8||(fx 72 y9||(fx 71 y10||(fx 70 y11||(fx 69 y12||(fx 68 y13||(fx 67 y14||(fx 66 y15||false))))))))))))))))))))))))))))))))=false:=hb
 simp only[Bool.or_eq_false_iff] at hb
 obtain⟨h0,h1,h2,h3,h4,_,_,_,_,_,_,_,_,_,_,_,h16,h17,_,h19,_,_,_,_,_,_,_,_,_,_,_,_,_⟩:=hb
 obtain rfl:=qz h0
 obtain rfl:=qz h1
 obtain rfl:=qz h2
 obtain rfl:=qz h3
 obtain rfl:=qu h4
 obtain rfl:=qz h16
 obtain rfl:=qu h17
 obtain rfl:=qz h19
 have q:=qNv x5 x6 x7 x8 x9 x10 x11 x12 x13 x14 x15 y2 y4 y5 y6 y7 y8 y9 y10 y11 y12 y13 y14 y15
 rw[q] at hc
 have f:=qca hc
 rw[q]
 exact⟨⟨24,_,_,_,_,_,_,true,rfl,q,qNn x5 x6 x7 x8 x9 x10 x11 x12 x13 x14 x15 y2 y4 y5 y6 y7 y8 y9 y10 y11 y12 y13 y14 y15⟩,rfl,rfl⟩
theorem qSG (x0 x1 x2 x3 x4 x5 x6 x7 x8 x9 x10 x11 x12 x13 x14 x15:Bool) (hb:qes 25 false [x0,x1,x2,x3,x4,x5,x6,x7,x8,x9,x10,x11,x12,x13,x14,x15]=false) (hc:qo (qF 25 false [x0,x1,x2,x3,x4,x5,x6,x7,x8,x9,x10,x11,x12,x13,x14,x15])=0):qrz (qF 25 false [x0,x1,x2,x3,x4,x5,x6,x7,x8,x9,x10,x11,x12,x13,x14,x15]) [x0,x1,x2,x3,x4,x5,x6,x7,x8,x9,x10,x11,x12,x13,x14,x15]∧(qF 25 false [x0,x1,x2,x3,x4,x5,x6,x7,x8,x9,x10,x11,x12,x13,x14,x15]).1=25∧(qF 25 false [x0,x1,x2,x3,x4,x5,x6,x7,x8,x9,x10,x11,x12,x13,x14,x15]).2.2.2.2.2.2.2.1=false:=by
 have hb:(fx 49 x0||(fx 49 x1||(fx 48 x2||(fx 49 x3||(fx 99 x4||(fx 99 x5||(fx 99 x6||(fx 99 x7||(fx 73 x8||(fx 72 x9||(fx 71 x10||(fx 70 x11||(fx 69 x12||(fx 68 x13||(fx 67 x14||(fx 66 x15||false))))))))))))))))=false:=hb
 simp only[Bool.or_eq_false_iff] at hb
 obtain⟨h0,h1,h2,h3,_,_,_,_,_,_,_,_,_,_,_,_,_⟩:=hb
 obtain rfl:=qz h0
 obtain rfl:=qz h1
 obtain rfl:=qu h2
 obtain rfl:=qz h3
 have q:=qPf x4 x5 x6 x7 x8 x9 x10 x11 x12 x13 x14 x15
 rw[q] at hc
 have f:=qca hc
 rw[q]
 exact⟨⟨25,_,_,_,_,_,_,false,rfl,q,qPe x4 x5 x6 x7 x8 x9 x10 x11 x12 x13 x14 x15 (f.2.2.2.2.2.2 rfl)⟩,rfl,rfl⟩
theorem qSb (x0 x1 x2 x3 x4 x5 x6 x7 x8 x9 x10 x11 x12 x13 x14 x15 y0 y1 y2 y3 y4 y5 y6 y7 y8 y9 y10 y11 y12 y13 y14 y15:Bool) (hb:qes 25 true [x0,x1,x2,x3,x4,x5,x6,x7,x8,x9,x10,x11,x12,x13,x14,x15,y0,y1,y2,y3,y4,y5,y6,y7,y8,y9,y10,y11,y12,y13,y14,y15]=false) (hc:qo (qF 25 true [x0,x1,x2,x3,x4,x5,x6,x7,x8,x9,x10,x11,x12,x13,x14,x15,y0,y1,y2,y3,y4,y5,y6,y7,y8,y9,y10,y11,y12,y13,y14,y15])=0):qi1 (qF 25 true [x0,x1,x2,x3,x4,x5,x6,x7,x8,x9,x10,x11,x12,x13,x14,x15,y0,y1,y2,y3,y4,y5,y6,y7,y8,y9,y10,y11,y12,y13,y14,y15]) [x0,x1,x2,x3,x4,x5,x6,x7,x8,x9,x10,x11,x12,x13,x14,x15] [y0,y1,y2,y3,y4,y5,y6,y7,y8,y9,y10,y11,y12,y13,y14,y15]∧(qF 25 true [x0,x1,x2,x3,x4,x5,x6,x7,x8,x9,x10,x11,x12,x13,x14,x15,y0,y1,y2,y3,y4,y5,y6,y7,y8,y9,y10,y11,y12,y13,y14,y15]).1=25∧(qF 25 true [x0,x1,x2,x3,x4,x5,x6,x7,x8,x9,x10,x11,x12,x13,x14,x15,y0,y1,y2,y3,y4,y5,y6,y7,y8,y9,y10,y11,y12,y13,y14,y15]).2.2.2.2.2.2.2.1=true:=by
 have hb:(fx 49 x0||(fx 49 x1||(fx 49 x2||(fx 49 x3||(fx 48 x4||(fx 85 x5||(fx 99 x6||(fx 99 x7||(fx 99 x8||(fx 99 x9||(fx 82 x10||(fx 81 x11||(fx 80 x12||(fx 79 x13||(fx 78 x14||(fx 77 x15||(fx 49 y0||(fx 48 y1||(fx 83 y2||(fx 48 y3||(fx 84 y4||(fx 76 y5||(fx 75 y6||(fx 74 y7||(fx 73 y8||(fx 72 y9||(fx 71 y10||(fx 70 y11||(fx 69 y12||(fx 68 y13||(fx 67 y14||(fx 66 y15||false))))))))))))))))))))))))))))))))=false:=hb
 simp only[Bool.or_eq_false_iff] at hb
 obtain⟨h0,h1,h2,h3,h4,_,_,_,_,_,_,_,_,_,_,_,h16,h17,_,h19,_,_,_,_,_,_,_,_,_,_,_,_,_⟩:=hb
 obtain rfl:=qz h0
 obtain rfl:=qz h1
 obtain rfl:=qz h2
 obtain rfl:=qz h3
 obtain rfl:=qu h4
 obtain rfl:=qz h16
 obtain rfl:=qu h17
 obtain rfl:=qu h19
 have q:=qMW x5 x6 x7 x8 x9 x10 x11 x12 x13 x14 x15 y2 y4 y5 y6 y7 y8 y9 y10 y11 y12 y13 y14 y15
 rw[q] at hc
 have f:=qca hc
 rw[q]
 exact⟨⟨25,_,_,_,_,_,_,true,rfl,q,qMx x5 x6 x7 x8 x9 x10 x11 x12 x13 x14 x15 y2 y4 y5 y6 y7 y8 y9 y10 y11 y12 y13 y14 y15 (f.2.2.2.2.2.2 rfl)⟩,rfl,rfl⟩
end Go.Av
namespace Go.Av
open Go
theorem qcy {op:Int} {w:Bool} {l:List Bool} (hlen:(qb (op,w)).length=l.length) (hne:qb (op,w)≠[]) (h:(qx (op,w,tx l)).2.1=true) :
  qes op w l=false∧qo (qF op w l)=0∧(qx (op,w,tx l)).1=qF op w l:=by
 have ht:=qwW op w l hlen hne
 have hv:qx (op,w,tx l)=(bif qes op w l then(zI,false,()) else(qF op w l,qo (qF op w l)==0,())):=by unfold qx PO.qQ;rw[ht];rfl
 rw[hv] at h ⊢
 cases hb:qes op w l
 ·rw[hb] at h
  have h:(qo (qF op w l)==(0:Int))=true:=h
  exact⟨rfl,by simpa using h,rfl⟩
 ·rw[hb] at h
  cases h
theorem qB {op:Int} {w:Bool} {l:List Bool} (h:(qb (op,w)).length≠l.length∨qb (op,w)=[]):(qx (op,w,tx l)).2.1=false:=by
 have ht:=qxe op w l h
 unfold qx PO.qQ
 rw[ht]
 rfl
theorem qMy (op:Int) (w:Bool) (l:List Bool):qdD (op,w,tx l)=true:=by
 unfold qdD
 by_cases h:(qb (op,w)).length=l.length∧qb (op,w)≠[]
 ·rw[qwW op w l h.1 h.2];rfl
 ·rw[qxe op w l (by
   by_cases h1:(qb (op,w)).length=l.length
   ·right
    exact Classical.not_not.1 (fun h2=>h ⟨h1,h2⟩)
   ·exact .inl h1)]
  rfl
theorem qQV (x0 x1 x2 x3 x4 x5 x6 x7 x8 x9 x10 x11 x12 x13 x14 x15:Bool) (op:Int) (w:Bool) (h:(qx (op,w,tx [x0,x1,x2,x3,x4,x5,x6,x7,x8,x9,x10,x11,x12,x13,x14,x15])).2.1=true) :
  qrz (qx (op,w,tx [x0,x1,x2,x3,x4,x5,x6,x7,x8,x9,x10,x11,x12,x13,x14,x15])).1 [x0,x1,x2,x3,x4,x5,x6,x7,x8,x9,x10,x11,x12,x13,x14,x15]∧(qx (op,w,tx [x0,x1,x2,x3,x4,x5,x6,x7,x8,x9,x10,x11,x12,x13,x14,x15])).1.1=op∧(qx (op,w,tx [x0,x1,x2,x3,x4,x5,x6,x7,x8,x9,x10,x11,x12,x13,x14,x15])).1.2.2.2.2.2.2.2.1=w:=by
 rcases qgO op with rfl |rfl |rfl |rfl |rfl |rfl |rfl |rfl |rfl |rfl |rfl |rfl |rfl |rfl |rfl |rfl |rfl |rfl |rfl |rfl |rfl |rfl |rfl |rfl |rfl |hop
 case inr.inr.inr.inr.inr.inr.inr.inr.inr.inr.inr.inr.inr.inr.inr.inr.inr.inr.inr.inr.inr.inr.inr.inr.inr=>exact Bool.noConfusion ((qB (.inr (qr2 hop w))).symm.trans h)
 all_goals cases w
 ·obtain⟨b,c,e⟩:=qcy (op:=1) (w:=false) rfl (by decide) h
  obtain⟨s1,s2,s3⟩:=qTq _ _ _ _ _ _ _ _ _ _ _ _ _ _ _ _ b c
  rw[e]
  exact⟨s1,s2,s3⟩
 ·exact Bool.noConfusion ((qB (op:=1) (w:=true) (l:=[x0,x1,x2,x3,x4,x5,x6,x7,x8,x9,x10,x11,x12,x13,x14,x15]) (.inr rfl)).symm.trans h)
 ·obtain⟨b,c,e⟩:=qcy (op:=2) (w:=false) rfl (by decide) h
  obtain⟨s1,s2,s3⟩:=qTF _ _ _ _ _ _ _ _ _ _ _ _ _ _ _ _ b c
  rw[e]
  exact⟨s1,s2,s3⟩
 ·exact Bool.noConfusion ((qB (op:=2) (w:=true) (l:=[x0,x1,x2,x3,x4,x5,x6,x7,x8,x9,x10,x11,x12,x13,x14,x15]) (.inr rfl)).symm.trans h)
 ·exact Bool.noConfusion ((qB (op:=3) (w:=false) (l:=[x0,x1,x2,x3,x4,x5,x6,x7,x8,x9,x10,x11,x12,x13,x14,x15]) (.inl (show(32:Nat)≠16 by decide))).symm.trans h)
 ·exact Bool.noConfusion ((qB (op:=3) (w:=true) (l:=[x0,x1,x2,x3,x4,x5,x6,x7,x8,x9,x10,x11,x12,x13,x14,x15]) (.inr rfl)).symm.trans h)
 ·exact Bool.noConfusion ((qB (op:=4) (w:=false) (l:=[x0,x1,x2,x3,x4,x5,x6,x7,x8,x9,x10,x11,x12,x13,x14,x15]) (.inl (show(32:Nat)≠16 by decide))).symm.trans h)
 ·exact Bool.noConfusion ((qB (op:=4) (w:=true) (l:=[x0,x1,x2,x3,x4,x5,x6,x7,x8,x9,x10,x11,x12,x13,x14,x15]) (.inr rfl)).symm.trans h)
 ·exact Bool.noConfusion ((qB (op:=5) (w:=false) (l:=[x0,x1,x2,x3,x4,x5,x6,x7,x8,x9,x10,x11,x12,x13,x14,x15]) (.inl (show(32:Nat)≠16 by decide))).symm.trans h)
 ·exact Bool.noConfusion ((qB (op:=5) (w:=true) (l:=[x0,x1,x2,x3,x4,x5,x6,x7,x8,x9,x10,x11,x12,x13,x14,x15]) (.inr rfl)).symm.trans h)
 ·exact Bool.noConfusion ((qB (op:=6) (w:=false) (l:=[x0,x1,x2,x3,x4,x5,x6,x7,x8,x9,x10,x11,x12,x13,x14,x15]) (.inl (show(32:Nat)≠16 by decide))).symm.trans h)
 ·exact Bool.noConfusion ((qB (op:=6) (w:=true) (l:=[x0,x1,x2,x3,x4,x5,x6,x7,x8,x9,x10,x11,x12,x13,x14,x15]) (.inr rfl)).symm.trans h)
 ·exact Bool.noConfusion ((qB (op:=7) (w:=false) (l:=[x0,x1,x2,x3,x4,x5,x6,x7,x8,x9,x10,x11,x12,x13,x14,x15]) (.inl (show(32:Nat)≠16 by decide))).symm.trans h)
 ·exact Bool.noConfusion ((qB (op:=7) (w:=true) (l:=[x0,x1,x2,x3,x4,x5,x6,x7,x8,x9,x10,x11,x12,x13,x14,x15]) (.inr rfl)).symm.trans h)
 ·exact Bool.noConfusion ((qB (op:=8) (w:=false) (l:=[x0,x1,x2,x3,x4,x5,x6,x7,x8,x9,x10,x11,x12,x13,x14,x15]) (.inl (show(32:Nat)≠16 by decide))).symm.trans h)
 ·exact Bool.noConfusion ((qB (op:=8) (w:=true) (l:=[x0,x1,x2,x3,x4,x5,x6,x7,x8,x9,x10,x11,x12,x13,x14,x15]) (.inr rfl)).symm.trans h)
 ·exact Bool.noConfusion ((qB (op:=9) (w:=false) (l:=[x0,x1,x2,x3,x4,x5,x6,x7,x8,x9,x10,x11,x12,x13,x14,x15]) (.inl (show(32:Nat)≠16 by decide))).symm.trans h)
 ·exact Bool.noConfusion ((qB (op:=9) (w:=true) (l:=[x0,x1,x2,x3,x4,x5,x6,x7,x8,x9,x10,x11,x12,x13,x14,x15]) (.inr rfl)).symm.trans h)
 ·exact Bool.noConfusion ((qB (op:=10) (w:=false) (l:=[x0,x1,x2,x3,x4,x5,x6,x7,x8,x9,x10,x11,x12,x13,x14,x15]) (.inl (show(32:Nat)≠16 by decide))).symm.trans h)
 ·exact Bool.noConfusion ((qB (op:=10) (w:=true) (l:=[x0,x1,x2,x3,x4,x5,x6,x7,x8,x9,x10,x11,x12,x13,x14,x15]) (.inr rfl)).symm.trans h)
 ·exact Bool.noConfusion ((qB (op:=11) (w:=false) (l:=[x0,x1,x2,x3,x4,x5,x6,x7,x8,x9,x10,x11,x12,x13,x14,x15]) (.inl (show(32:Nat)≠16 by decide))).symm.trans h)
 ·exact Bool.noConfusion ((qB (op:=11) (w:=true) (l:=[x0,x1,x2,x3,x4,x5,x6,x7,x8,x9,x10,x11,x12,x13,x14,x15]) (.inr rfl)).symm.trans h)
 ·exact Bool.noConfusion ((qB (op:=12) (w:=false) (l:=[x0,x1,x2,x3,x4,x5,x6,x7,x8,x9,x10,x11,x12,x13,x14,x15]) (.inl (show(32:Nat)≠16 by decide))).symm.trans h)
 ·exact Bool.noConfusion ((qB (op:=12) (w:=true) (l:=[x0,x1,x2,x3,x4,x5,x6,x7,x8,x9,x10,x11,x12,x13,x14,x15]) (.inr rfl)).symm.trans h)
 ·exact Bool.noConfusion ((qB (op:=13) (w:=false) (l:=[x0,x1,x2,x3,x4,x5,x6,x7,x8,x9,x10,x11,x12,x13,x14,x15]) (.inl (show(32:Nat)≠16 by decide))).symm.trans h)
 ·exact Bool.noConfusion ((qB (op:=13) (w:=true) (l:=[x0,x1,x2,x3,x4,x5,x6,x7,x8,x9,x10,x11,x12,x13,x14,x15]) (.inr rfl)).symm.trans h)
 ·exact Bool.noConfusion ((qB (op:=14) (w:=false) (l:=[x0,x1,x2,x3,x4,x5,x6,x7,x8,x9,x10,x11,x12,x13,x14,x15]) (.inl (show(32:Nat)≠16 by decide))).symm.trans h)
 ·exact Bool.noConfusion ((qB (op:=14) (w:=true) (l:=[x0,x1,x2,x3,x4,x5,x6,x7,x8,x9,x10,x11,x12,x13,x14,x15]) (.inr rfl)).symm.trans h)
 ·exact Bool.noConfusion ((qB (op:=15) (w:=false) (l:=[x0,x1,x2,x3,x4,x5,x6,x7,x8,x9,x10,x11,x12,x13,x14,x15]) (.inl (show(32:Nat)≠16 by decide))).symm.trans h)
 ·exact Bool.noConfusion ((qB (op:=15) (w:=true) (l:=[x0,x1,x2,x3,x4,x5,x6,x7,x8,x9,x10,x11,x12,x13,x14,x15]) (.inr rfl)).symm.trans h)
 ·exact Bool.noConfusion ((qB (op:=16) (w:=false) (l:=[x0,x1,x2,x3,x4,x5,x6,x7,x8,x9,x10,x11,x12,x13,x14,x15]) (.inl (show(32:Nat)≠16 by decide))).symm.trans h)
 ·exact Bool.noConfusion ((qB (op:=16) (w:=true) (l:=[x0,x1,x2,x3,x4,x5,x6,x7,x8,x9,x10,x11,x12,x13,x14,x15]) (.inr rfl)).symm.trans h)
 ·exact Bool.noConfusion ((qB (op:=17) (w:=false) (l:=[x0,x1,x2,x3,x4,x5,x6,x7,x8,x9,x10,x11,x12,x13,x14,x15]) (.inl (show(32:Nat)≠16 by decide))).symm.trans h)
 ·exact Bool.noConfusion ((qB (op:=17) (w:=true) (l:=[x0,x1,x2,x3,x4,x5,x6,x7,x8,x9,x10,x11,x12,x13,x14,x15]) (.inr rfl)).symm.trans h)
 ·exact Bool.noConfusion ((qB (op:=18) (w:=false) (l:=[x0,x1,x2,x3,x4,x5,x6,x7,x8,x9,x10,x11,x12,x13,x14,x15]) (.inl (show(32:Nat)≠16 by decide))).symm.trans h)
 ·exact Bool.noConfusion ((qB (op:=18) (w:=true) (l:=[x0,x1,x2,x3,x4,x5,x6,x7,x8,x9,x10,x11,x12,x13,x14,x15]) (.inr rfl)).symm.trans h)
 ·obtain⟨b,c,e⟩:=qcy (op:=19) (w:=false) rfl (by decide) h
  obtain⟨s1,s2,s3⟩:=qSO _ _ _ _ _ _ _ _ _ _ _ _ _ _ _ _ b c
  rw[e]
  exact⟨s1,s2,s3⟩
 ·exact Bool.noConfusion ((qB (op:=19) (w:=true) (l:=[x0,x1,x2,x3,x4,x5,x6,x7,x8,x9,x10,x11,x12,x13,x14,x15]) (.inr rfl)).symm.trans h)
 ·obtain⟨b,c,e⟩:=qcy (op:=20) (w:=false) rfl (by decide) h
  obtain⟨s1,s2,s3⟩:=qSS _ _ _ _ _ _ _ _ _ _ _ _ _ _ _ _ b c
  rw[e]
  exact⟨s1,s2,s3⟩
 ·exact Bool.noConfusion ((qB (op:=20) (w:=true) (l:=[x0,x1,x2,x3,x4,x5,x6,x7,x8,x9,x10,x11,x12,x13,x14,x15]) (.inr rfl)).symm.trans h)
 ·obtain⟨b,c,e⟩:=qcy (op:=21) (w:=false) rfl (by decide) h
  obtain⟨s1,s2,s3⟩:=qS1 _ _ _ _ _ _ _ _ _ _ _ _ _ _ _ _ b c
  rw[e]
  exact⟨s1,s2,s3⟩
 ·exact Bool.noConfusion ((qB (op:=21) (w:=true) (l:=[x0,x1,x2,x3,x4,x5,x6,x7,x8,x9,x10,x11,x12,x13,x14,x15]) (.inr rfl)).symm.trans h)
 ·obtain⟨b,c,e⟩:=qcy (op:=22) (w:=false) rfl (by decide) h
  obtain⟨s1,s2,s3⟩:=qSV _ _ _ _ _ _ _ _ _ _ _ _ _ _ _ _ b c
  rw[e]
  exact⟨s1,s2,s3⟩
 ·exact Bool.noConfusion ((qB (op:=22) (w:=true) (l:=[x0,x1,x2,x3,x4,x5,x6,x7,x8,x9,x10,x11,x12,x13,x14,x15]) (.inr rfl)).symm.trans h)
 ·obtain⟨b,c,e⟩:=qcy (op:=23) (w:=false) rfl (by decide) h
  obtain⟨s1,s2,s3⟩:=qSH _ _ _ _ _ _ _ _ _ _ _ _ _ _ _ _ b c
  rw[e]
  exact⟨s1,s2,s3⟩
 ·exact Bool.noConfusion ((qB (op:=23) (w:=true) (l:=[x0,x1,x2,x3,x4,x5,x6,x7,x8,x9,x10,x11,x12,x13,x14,x15]) (.inr rfl)).symm.trans h)
 ·obtain⟨b,c,e⟩:=qcy (op:=24) (w:=false) rfl (by decide) h
  obtain⟨s1,s2,s3⟩:=qSZ _ _ _ _ _ _ _ _ _ _ _ _ _ _ _ _ b c
  rw[e]
  exact⟨s1,s2,s3⟩
 ·exact Bool.noConfusion ((qB (op:=24) (w:=true) (l:=[x0,x1,x2,x3,x4,x5,x6,x7,x8,x9,x10,x11,x12,x13,x14,x15]) (.inl (show(32:Nat)≠16 by decide))).symm.trans h)
 ·obtain⟨b,c,e⟩:=qcy (op:=25) (w:=false) rfl (by decide) h
  obtain⟨s1,s2,s3⟩:=qSG _ _ _ _ _ _ _ _ _ _ _ _ _ _ _ _ b c
  rw[e]
  exact⟨s1,s2,s3⟩
 ·exact Bool.noConfusion ((qB (op:=25) (w:=true) (l:=[x0,x1,x2,x3,x4,x5,x6,x7,x8,x9,x10,x11,x12,x13,x14,x15]) (.inl (show(32:Nat)≠16 by decide))).symm.trans h)
theorem qQN (x0 x1 x2 x3 x4 x5 x6 x7 x8 x9 x10 x11 x12 x13 x14 x15 y0 y1 y2 y3 y4 y5 y6 y7 y8 y9 y10 y11 y12 y13 y14 y15:Bool) (op:Int) (w:Bool) (h:(qx (op,w,tx [x0,x1,x2,x3,x4,x5,x6,x7,x8,x9,x10,x11,x12,x13,x14,x15,y0,y1,y2,y3,y4,y5,y6,y7,y8,y9,y10,y11,y12,y13,y14,y15])).2.1=true) :
  qi1 (qx (op,w,tx [x0,x1,x2,x3,x4,x5,x6,x7,x8,x9,x10,x11,x12,x13,x14,x15,y0,y1,y2,y3,y4,y5,y6,y7,y8,y9,y10,y11,y12,y13,y14,y15])).1 [x0,x1,x2,x3,x4,x5,x6,x7,x8,x9,x10,x11,x12,x13,x14,x15] [y0,y1,y2,y3,y4,y5,y6,y7,y8,y9,y10,y11,y12,y13,y14,y15]∧(qx (op,w,tx [x0,x1,x2,x3,x4,x5,x6,x7,x8,x9,x10,x11,x12,x13,x14,x15,y0,y1,y2,y3,y4,y5,y6,y7,y8,y9,y10,y11,y12,y13,y14,y15])).1.1=op∧(qx (op,w,tx [x0,x1,x2,x3,x4,x5,x6,x7,x8,x9,x10,x11,x12,x13,x14,x15,y0,y1,y2,y3,y4,y5,y6,y7,y8,y9,y10,y11,y12,y13,y14,y15])).1.2.2.2.2.2.2.2.1=w:=by
 rcases qgO op with rfl |rfl |rfl |rfl |rfl |rfl |rfl |rfl |rfl |rfl |rfl |rfl |rfl |rfl |rfl |rfl |rfl |rfl |rfl |rfl |rfl |rfl |rfl |rfl |rfl |hop
 case inr.inr.inr.inr.inr.inr.inr.inr.inr.inr.inr.inr.inr.inr.inr.inr.inr.inr.inr.inr.inr.inr.inr.inr.inr=>exact Bool.noConfusion ((qB (.inr (qr2 hop w))).symm.trans h)
 all_goals cases w
 ·exact Bool.noConfusion ((qB (op:=1) (w:=false) (l:=[x0,x1,x2,x3,x4,x5,x6,x7,x8,x9,x10,x11,x12,x13,x14,x15,y0,y1,y2,y3,y4,y5,y6,y7,y8,y9,y10,y11,y12,y13,y14,y15]) (.inl (show(16:Nat)≠32 by decide))).symm.trans h)
 ·exact Bool.noConfusion ((qB (op:=1) (w:=true) (l:=[x0,x1,x2,x3,x4,x5,x6,x7,x8,x9,x10,x11,x12,x13,x14,x15,y0,y1,y2,y3,y4,y5,y6,y7,y8,y9,y10,y11,y12,y13,y14,y15]) (.inr rfl)).symm.trans h)
 ·exact Bool.noConfusion ((qB (op:=2) (w:=false) (l:=[x0,x1,x2,x3,x4,x5,x6,x7,x8,x9,x10,x11,x12,x13,x14,x15,y0,y1,y2,y3,y4,y5,y6,y7,y8,y9,y10,y11,y12,y13,y14,y15]) (.inl (show(16:Nat)≠32 by decide))).symm.trans h)
 ·exact Bool.noConfusion ((qB (op:=2) (w:=true) (l:=[x0,x1,x2,x3,x4,x5,x6,x7,x8,x9,x10,x11,x12,x13,x14,x15,y0,y1,y2,y3,y4,y5,y6,y7,y8,y9,y10,y11,y12,y13,y14,y15]) (.inr rfl)).symm.trans h)
 ·obtain⟨b,c,e⟩:=qcy (op:=3) (w:=false) rfl (by decide) h
  obtain⟨s1,s2,s3⟩:=qTz _ _ _ _ _ _ _ _ _ _ _ _ _ _ _ _ _ _ _ _ _ _ _ _ _ _ _ _ _ _ _ _ b c
  rw[e]
  exact⟨s1,s2,s3⟩
 ·exact Bool.noConfusion ((qB (op:=3) (w:=true) (l:=[x0,x1,x2,x3,x4,x5,x6,x7,x8,x9,x10,x11,x12,x13,x14,x15,y0,y1,y2,y3,y4,y5,y6,y7,y8,y9,y10,y11,y12,y13,y14,y15]) (.inr rfl)).symm.trans h)
 ·obtain⟨b,c,e⟩:=qcy (op:=4) (w:=false) rfl (by decide) h
  obtain⟨s1,s2,s3⟩:=qTt _ _ _ _ _ _ _ _ _ _ _ _ _ _ _ _ _ _ _ _ _ _ _ _ _ _ _ _ _ _ _ _ b c
  rw[e]
  exact⟨s1,s2,s3⟩
 ·exact Bool.noConfusion ((qB (op:=4) (w:=true) (l:=[x0,x1,x2,x3,x4,x5,x6,x7,x8,x9,x10,x11,x12,x13,x14,x15,y0,y1,y2,y3,y4,y5,y6,y7,y8,y9,y10,y11,y12,y13,y14,y15]) (.inr rfl)).symm.trans h)
 ·obtain⟨b,c,e⟩:=qcy (op:=5) (w:=false) rfl (by decide) h
  obtain⟨s1,s2,s3⟩:=qTo _ _ _ _ _ _ _ _ _ _ _ _ _ _ _ _ _ _ _ _ _ _ _ _ _ _ _ _ _ _ _ _ b c
  rw[e]
  exact⟨s1,s2,s3⟩
 ·exact Bool.noConfusion ((qB (op:=5) (w:=true) (l:=[x0,x1,x2,x3,x4,x5,x6,x7,x8,x9,x10,x11,x12,x13,x14,x15,y0,y1,y2,y3,y4,y5,y6,y7,y8,y9,y10,y11,y12,y13,y14,y15]) (.inr rfl)).symm.trans h)
 ·obtain⟨b,c,e⟩:=qcy (op:=6) (w:=false) rfl (by decide) h
  obtain⟨s1,s2,s3⟩:=qTp _ _ _ _ _ _ _ _ _ _ _ _ _ _ _ _ _ _ _ _ _ _ _ _ _ _ _ _ _ _ _ _ b c
  rw[e]
  exact⟨s1,s2,s3⟩
 ·exact Bool.noConfusion ((qB (op:=6) (w:=true) (l:=[x0,x1,x2,x3,x4,x5,x6,x7,x8,x9,x10,x11,x12,x13,x14,x15,y0,y1,y2,y3,y4,y5,y6,y7,y8,y9,y10,y11,y12,y13,y14,y15]) (.inr rfl)).symm.trans h)
 ·obtain⟨b,c,e⟩:=qcy (op:=7) (w:=false) rfl (by decide) h
  obtain⟨s1,s2,s3⟩:=qTE _ _ _ _ _ _ _ _ _ _ _ _ _ _ _ _ _ _ _ _ _ _ _ _ _ _ _ _ _ _ _ _ b c
  rw[e]
  exact⟨s1,s2,s3⟩
 ·exact Bool.noConfusion ((qB (op:=7) (w:=true) (l:=[x0,x1,x2,x3,x4,x5,x6,x7,x8,x9,x10,x11,x12,x13,x14,x15,y0,y1,y2,y3,y4,y5,y6,y7,y8,y9,y10,y11,y12,y13,y14,y15]) (.inr rfl)).symm.trans h)
 ·obtain⟨b,c,e⟩:=qcy (op:=8) (w:=false) rfl (by decide) h
  obtain⟨s1,s2,s3⟩:=qTI _ _ _ _ _ _ _ _ _ _ _ _ _ _ _ _ _ _ _ _ _ _ _ _ _ _ _ _ _ _ _ _ b c
  rw[e]
  exact⟨s1,s2,s3⟩
 ·exact Bool.noConfusion ((qB (op:=8) (w:=true) (l:=[x0,x1,x2,x3,x4,x5,x6,x7,x8,x9,x10,x11,x12,x13,x14,x15,y0,y1,y2,y3,y4,y5,y6,y7,y8,y9,y10,y11,y12,y13,y14,y15]) (.inr rfl)).symm.trans h)
 ·obtain⟨b,c,e⟩:=qcy (op:=9) (w:=false) rfl (by decide) h
  obtain⟨s1,s2,s3⟩:=qTH _ _ _ _ _ _ _ _ _ _ _ _ _ _ _ _ _ _ _ _ _ _ _ _ _ _ _ _ _ _ _ _ b c
  rw[e]
  exact⟨s1,s2,s3⟩
 ·exact Bool.noConfusion ((qB (op:=9) (w:=true) (l:=[x0,x1,x2,x3,x4,x5,x6,x7,x8,x9,x10,x11,x12,x13,x14,x15,y0,y1,y2,y3,y4,y5,y6,y7,y8,y9,y10,y11,y12,y13,y14,y15]) (.inr rfl)).symm.trans h)
 ·obtain⟨b,c,e⟩:=qcy (op:=10) (w:=false) rfl (by decide) h
  obtain⟨s1,s2,s3⟩:=qSB _ _ _ _ _ _ _ _ _ _ _ _ _ _ _ _ _ _ _ _ _ _ _ _ _ _ _ _ _ _ _ _ b c
  rw[e]
  exact⟨s1,s2,s3⟩
 ·exact Bool.noConfusion ((qB (op:=10) (w:=true) (l:=[x0,x1,x2,x3,x4,x5,x6,x7,x8,x9,x10,x11,x12,x13,x14,x15,y0,y1,y2,y3,y4,y5,y6,y7,y8,y9,y10,y11,y12,y13,y14,y15]) (.inr rfl)).symm.trans h)
 ·obtain⟨b,c,e⟩:=qcy (op:=11) (w:=false) rfl (by decide) h
  obtain⟨s1,s2,s3⟩:=qSF _ _ _ _ _ _ _ _ _ _ _ _ _ _ _ _ _ _ _ _ _ _ _ _ _ _ _ _ _ _ _ _ b c
  rw[e]
  exact⟨s1,s2,s3⟩
 ·exact Bool.noConfusion ((qB (op:=11) (w:=true) (l:=[x0,x1,x2,x3,x4,x5,x6,x7,x8,x9,x10,x11,x12,x13,x14,x15,y0,y1,y2,y3,y4,y5,y6,y7,y8,y9,y10,y11,y12,y13,y14,y15]) (.inr rfl)).symm.trans h)
 ·obtain⟨b,c,e⟩:=qcy (op:=12) (w:=false) rfl (by decide) h
  obtain⟨s1,s2,s3⟩:=qSN _ _ _ _ _ _ _ _ _ _ _ _ _ _ _ _ _ _ _ _ _ _ _ _ _ _ _ _ _ _ _ _ b c
  rw[e]
  exact⟨s1,s2,s3⟩
 ·exact Bool.noConfusion ((qB (op:=12) (w:=true) (l:=[x0,x1,x2,x3,x4,x5,x6,x7,x8,x9,x10,x11,x12,x13,x14,x15,y0,y1,y2,y3,y4,y5,y6,y7,y8,y9,y10,y11,y12,y13,y14,y15]) (.inr rfl)).symm.trans h)
 ·obtain⟨b,c,e⟩:=qcy (op:=13) (w:=false) rfl (by decide) h
  obtain⟨s1,s2,s3⟩:=qTd _ _ _ _ _ _ _ _ _ _ _ _ _ _ _ _ _ _ _ _ _ _ _ _ _ _ _ _ _ _ _ _ b c
  rw[e]
  exact⟨s1,s2,s3⟩
 ·exact Bool.noConfusion ((qB (op:=13) (w:=true) (l:=[x0,x1,x2,x3,x4,x5,x6,x7,x8,x9,x10,x11,x12,x13,x14,x15,y0,y1,y2,y3,y4,y5,y6,y7,y8,y9,y10,y11,y12,y13,y14,y15]) (.inr rfl)).symm.trans h)
 ·obtain⟨b,c,e⟩:=qcy (op:=14) (w:=false) rfl (by decide) h
  obtain⟨s1,s2,s3⟩:=qS0 _ _ _ _ _ _ _ _ _ _ _ _ _ _ _ _ _ _ _ _ _ _ _ _ _ _ _ _ _ _ _ _ b c
  rw[e]
  exact⟨s1,s2,s3⟩
 ·exact Bool.noConfusion ((qB (op:=14) (w:=true) (l:=[x0,x1,x2,x3,x4,x5,x6,x7,x8,x9,x10,x11,x12,x13,x14,x15,y0,y1,y2,y3,y4,y5,y6,y7,y8,y9,y10,y11,y12,y13,y14,y15]) (.inr rfl)).symm.trans h)
 ·obtain⟨b,c,e⟩:=qcy (op:=15) (w:=false) rfl (by decide) h
  obtain⟨s1,s2,s3⟩:=qS8 _ _ _ _ _ _ _ _ _ _ _ _ _ _ _ _ _ _ _ _ _ _ _ _ _ _ _ _ _ _ _ _ b c
  rw[e]
  exact⟨s1,s2,s3⟩
 ·exact Bool.noConfusion ((qB (op:=15) (w:=true) (l:=[x0,x1,x2,x3,x4,x5,x6,x7,x8,x9,x10,x11,x12,x13,x14,x15,y0,y1,y2,y3,y4,y5,y6,y7,y8,y9,y10,y11,y12,y13,y14,y15]) (.inr rfl)).symm.trans h)
 ·obtain⟨b,c,e⟩:=qcy (op:=16) (w:=false) rfl (by decide) h
  obtain⟨s1,s2,s3⟩:=qSU _ _ _ _ _ _ _ _ _ _ _ _ _ _ _ _ _ _ _ _ _ _ _ _ _ _ _ _ _ _ _ _ b c
  rw[e]
  exact⟨s1,s2,s3⟩
 ·exact Bool.noConfusion ((qB (op:=16) (w:=true) (l:=[x0,x1,x2,x3,x4,x5,x6,x7,x8,x9,x10,x11,x12,x13,x14,x15,y0,y1,y2,y3,y4,y5,y6,y7,y8,y9,y10,y11,y12,y13,y14,y15]) (.inr rfl)).symm.trans h)
 ·obtain⟨b,c,e⟩:=qcy (op:=17) (w:=false) rfl (by decide) h
  obtain⟨s1,s2,s3⟩:=qS3 _ _ _ _ _ _ _ _ _ _ _ _ _ _ _ _ _ _ _ _ _ _ _ _ _ _ _ _ _ _ _ _ b c
  rw[e]
  exact⟨s1,s2,s3⟩
 ·exact Bool.noConfusion ((qB (op:=17) (w:=true) (l:=[x0,x1,x2,x3,x4,x5,x6,x7,x8,x9,x10,x11,x12,x13,x14,x15,y0,y1,y2,y3,y4,y5,y6,y7,y8,y9,y10,y11,y12,y13,y14,y15]) (.inr rfl)).symm.trans h)
 ·obtain⟨b,c,e⟩:=qcy (op:=18) (w:=false) rfl (by decide) h
  obtain⟨s1,s2,s3⟩:=qSP _ _ _ _ _ _ _ _ _ _ _ _ _ _ _ _ _ _ _ _ _ _ _ _ _ _ _ _ _ _ _ _ b c
  rw[e]
  exact⟨s1,s2,s3⟩
 ·exact Bool.noConfusion ((qB (op:=18) (w:=true) (l:=[x0,x1,x2,x3,x4,x5,x6,x7,x8,x9,x10,x11,x12,x13,x14,x15,y0,y1,y2,y3,y4,y5,y6,y7,y8,y9,y10,y11,y12,y13,y14,y15]) (.inr rfl)).symm.trans h)
 ·exact Bool.noConfusion ((qB (op:=19) (w:=false) (l:=[x0,x1,x2,x3,x4,x5,x6,x7,x8,x9,x10,x11,x12,x13,x14,x15,y0,y1,y2,y3,y4,y5,y6,y7,y8,y9,y10,y11,y12,y13,y14,y15]) (.inl (show(16:Nat)≠32 by decide))).symm.trans h)
 ·exact Bool.noConfusion ((qB (op:=19) (w:=true) (l:=[x0,x1,x2,x3,x4,x5,x6,x7,x8,x9,x10,x11,x12,x13,x14,x15,y0,y1,y2,y3,y4,y5,y6,y7,y8,y9,y10,y11,y12,y13,y14,y15]) (.inr rfl)).symm.trans h)
 ·exact Bool.noConfusion ((qB (op:=20) (w:=false) (l:=[x0,x1,x2,x3,x4,x5,x6,x7,x8,x9,x10,x11,x12,x13,x14,x15,y0,y1,y2,y3,y4,y5,y6,y7,y8,y9,y10,y11,y12,y13,y14,y15]) (.inl (show(16:Nat)≠32 by decide))).symm.trans h)
 ·exact Bool.noConfusion ((qB (op:=20) (w:=true) (l:=[x0,x1,x2,x3,x4,x5,x6,x7,x8,x9,x10,x11,x12,x13,x14,x15,y0,y1,y2,y3,y4,y5,y6,y7,y8,y9,y10,y11,y12,y13,y14,y15]) (.inr rfl)).symm.trans h)
 ·exact Bool.noConfusion ((qB (op:=21) (w:=false) (l:=[x0,x1,x2,x3,x4,x5,x6,x7,x8,x9,x10,x11,x12,x13,x14,x15,y0,y1,y2,y3,y4,y5,y6,y7,y8,y9,y10,y11,y12,y13,y14,y15]) (.inl (show(16:Nat)≠32 by decide))).symm.trans h)
 ·exact Bool.noConfusion ((qB (op:=21) (w:=true) (l:=[x0,x1,x2,x3,x4,x5,x6,x7,x8,x9,x10,x11,x12,x13,x14,x15,y0,y1,y2,y3,y4,y5,y6,y7,y8,y9,y10,y11,y12,y13,y14,y15]) (.inr rfl)).symm.trans h)
 ·exact Bool.noConfusion ((qB (op:=22) (w:=false) (l:=[x0,x1,x2,x3,x4,x5,x6,x7,x8,x9,x10,x11,x12,x13,x14,x15,y0,y1,y2,y3,y4,y5,y6,y7,y8,y9,y10,y11,y12,y13,y14,y15]) (.inl (show(16:Nat)≠32 by decide))).symm.trans h)
 ·exact Bool.noConfusion ((qB (op:=22) (w:=true) (l:=[x0,x1,x2,x3,x4,x5,x6,x7,x8,x9,x10,x11,x12,x13,x14,x15,y0,y1,y2,y3,y4,y5,y6,y7,y8,y9,y10,y11,y12,y13,y14,y15]) (.inr rfl)).symm.trans h)
 ·exact Bool.noConfusion ((qB (op:=23) (w:=false) (l:=[x0,x1,x2,x3,x4,x5,x6,x7,x8,x9,x10,x11,x12,x13,x14,x15,y0,y1,y2,y3,y4,y5,y6,y7,y8,y9,y10,y11,y12,y13,y14,y15]) (.inl (show(16:Nat)≠32 by decide))).symm.trans h)
 ·exact Bool.noConfusion ((qB (op:=23) (w:=true) (l:=[x0,x1,x2,x3,x4,x5,x6,x7,x8,x9,x10,x11,x12,x13,x14,x15,y0,y1,y2,y3,y4,y5,y6,y7,y8,y9,y10,y11,y12,y13,y14,y15]) (.inr rfl)).symm.trans h)
 ·exact Bool.noConfusion ((qB (op:=24) (w:=false) (l:=[x0,x1,x2,x3,x4,x5,x6,x7,x8,x9,x10,x11,x12,x13,x14,x15,y0,y1,y2,y3,y4,y5,y6,y7,y8,y9,y10,y11,y12,y13,y14,y15]) (.inl (show(16:Nat)≠32 by decide))).symm.trans h)
 ·obtain⟨b,c,e⟩:=qcy (op:=24) (w:=true) rfl (by decide) h
  obtain⟨s1,s2,s3⟩:=qQ4 _ _ _ _ _ _ _ _ _ _ _ _ _ _ _ _ _ _ _ _ _ _ _ _ _ _ _ _ _ _ _ _ b c
  rw[e]
  exact⟨s1,s2,s3⟩
 ·exact Bool.noConfusion ((qB (op:=25) (w:=false) (l:=[x0,x1,x2,x3,x4,x5,x6,x7,x8,x9,x10,x11,x12,x13,x14,x15,y0,y1,y2,y3,y4,y5,y6,y7,y8,y9,y10,y11,y12,y13,y14,y15]) (.inl (show(16:Nat)≠32 by decide))).symm.trans h)
 ·obtain⟨b,c,e⟩:=qcy (op:=25) (w:=true) rfl (by decide) h
  obtain⟨s1,s2,s3⟩:=qSb _ _ _ _ _ _ _ _ _ _ _ _ _ _ _ _ _ _ _ _ _ _ _ _ _ _ _ _ _ _ _ _ b c
  rw[e]
  exact⟨s1,s2,s3⟩
theorem qOK {i:qbd.den} {l:List Bool} (h:qrz i l):qcz l=some i:=by
 obtain⟨op,rd,rn,rm,ra,imm,cond,w,rfl,_,hok,hlen,hl⟩:=h
 have e:e1 op rd rn rm ra imm cond w=l:=by
  unfold e1
  rw[List.take_of_length_le (by omega)]
  exact hl
 rcases qMi op rd rn rm ra imm cond w hok with⟨_,_,h3⟩ |⟨h1,_,_⟩
 ·rw[←e];exact h3
 ·omega
theorem qOv {i:qbd.den} {lx ly:List Bool} (h:qi1 i lx ly):qcd lx ly=some i:=by
 obtain⟨op,rd,rn,rm,ra,imm,cond,w,rfl,_,hok,hlen,hl,hl2⟩:=h
 have e:e1 op rd rn rm ra imm cond w=lx:=hl
 have f:e2 op rd rn rm ra imm cond w=ly:=hl2
 rcases qMi op rd rn rm ra imm cond w hok with⟨h1,_,_⟩ |⟨_,_,h3⟩
 ·omega
 ·rw[←e,←f];exact h3
theorem qK4 {op:Int} {w:Bool} {n:Nat} (h:(qb (op,w)).length=n+1):qb (op,w)≠[]:=fun e=>by rw[e] at h;cases h
theorem qIT {op rd rn rm ra imm cond:Int} {w:Bool} {l:List Bool} (hr:qF op w l=(op,rd,rn,rm,ra,imm,cond,w,())) (hok:okB op rd rn rm ra imm cond w=true) (hlen:(qb (op,w)).length=l.length) (hb:qes op w l=false) (hne:qb (op,w)≠[]) :
  qx (op,w,tx l)=((op,rd,rn,rm,ra,imm,cond,w,()),true,()):=by
 have hc:qo (op,rd,rn,rm,ra,imm,cond,w,())=0:=by rw[←qoK];exact(qxi op rd rn rm ra imm cond w).2 hok
 unfold qx PO.qQ
 rw[qwW op w l hlen hne,hb,hr,hc]
 rfl
theorem qPa {op rd rn rm ra imm cond:Int} {w:Bool} (h:okB op rd rn rm ra imm cond w=true):1≤op∧op≤25:=(qjM ((qxi op rd rn rm ra imm cond w).2 h)).1
section
variable (t:List UInt8) (n:Int) (hG:∀(op:Int) (w:Bool),qdD (op,w,t)=true)
include hG
theorem qG7 (op:Int) (h1:op≤25) (h0:0≤op) (hf:∀w,(qx (op,w,t)).2.1=false):(qbV.turn ((),0,0,n,t,1) zI (0,0,op,zI)).val=some (.on (0,0,op+1,zI)):=by
 dsimp only[qbV]
 refine(qe (qK h1)).trans ((qe (hG op false)).trans ((qv (hf false)).trans ((qe (hG op true)).trans ((qv (hf true)).trans ?_))))
 rw[qt (n:=op+1) (by omega) (by omega)]
 rfl
theorem qyT (hf:∀(op:Int) (w:Bool),(qx (op,w,t)).2.1=false):∀(k:Nat) (op:Int),op+k=26→1≤op→∀f,k<f→qcF (qbV.turn ((),0,0,n,t,1) zI) f (0,0,op,zI)=some (0,0,0,26,zI)
 |0,op,h,_,f,hf'=>by
  obtain⟨f,rfl⟩:∃g,f=g+1:=⟨f-1,by omega⟩
  refine(qbg (c:=0) (s':=(0,0,op,zI)) ?_).trans (by rw[show op=26 by omega])
  dsimp only[qbV]
  exact(qv (qW (p:=op≤25) (by omega))).trans rfl
 |k+1,op,h,h1,f,hf'=>by
  obtain⟨f,rfl⟩:∃g,f=g+1:=⟨f-1,by omega⟩
  exact(qcx (qG7 t n hG op (by omega) (by omega) (hf op))).trans (qyT hf k (op+1) (by omega) (by omega) f (by omega))
theorem qyY {op0:Int} {w0:Bool} {i0:qbd.den} (h25:op0≤25) (hu:∀(op:Int) (w:Bool),(qx (op,w,t)).2.1=true→op=op0∧w=w0) (hi:qx (op0,w0,t)=(i0,true,())) :
  ∀(k:Nat) (op:Int),op+k=op0→1≤op→∀f,k<f→qcF (qbV.turn ((),0,0,n,t,1) zI) f (0,0,op,zI)=some (1,n,0,op0,i0)
 |0,op,h,_,f,hf'=>by
  obtain⟨f,rfl⟩:∃g,f=g+1:=⟨f-1,by omega⟩
  obtain rfl:op=op0:=by omega
  refine qbg (c:=1) (s':=(n,0,op,i0)) ?_
  dsimp only[qbV]
  refine(qe (qK h25)).trans ((qe (hG op false)).trans ?_)
  cases w0
  ·refine(qe (by rw[hi])).trans ?_
   rw[hi]
   rfl
  ·have hn:(qx (op,false,t)).2.1=false:=by
    cases e:(qx (op,false,t)).2.1
    ·rfl
    ·exact Bool.noConfusion (hu op false e).2
   refine(qv hn).trans ((qe (hG op true)).trans ((qe (by rw[hi])).trans ?_))
   rw[hi]
   rfl
 |k+1,op,h,h1,f,hf'=>by
  obtain⟨f,rfl⟩:∃g,f=g+1:=⟨f-1,by omega⟩
  have hf:∀w,(qx (op,w,t)).2.1=false:=fun w=>by
   cases e:(qx (op,w,t)).2.1
   ·rfl
   ·have:=(hu op w e).1
    omega
  exact(qcx (qG7 t n hG op (by omega) (by omega) hf)).trans (qyY h25 hu hi k (op+1) (by omega) (by omega) f (by omega))
end
theorem qRm (l:List Bool) (hl:l.length=16):LoopN.res qbV ((),0,0,2,tx l,1) zI=(match qcz l with|some i=>some (1,2,0,i.1,i) |none=>some (0,0,0,26,zI)):=by
 have hG:=fun op w=>qMy op w l
 have huniq:∀(op:Int) (w:Bool),(qx (op,w,tx l)).2.1=true→qcz l=some (qx (op,w,tx l)).1∧(qx (op,w,tx l)).1.1=op∧(qx (op,w,tx l)).1.2.2.2.2.2.2.2.1=w:=by
  obtain⟨x0,x1,x2,x3,x4,x5,x6,x7,x8,x9,x10,x11,x12,x13,x14,x15,rfl⟩:=qt3 hl
  intro op w h
  obtain⟨a,b,c⟩:=qQV x0 x1 x2 x3 x4 x5 x6 x7 x8 x9 x10 x11 x12 x13 x14 x15 op w h
  exact⟨qOK a,b,c⟩
 cases hd:qcz l with
 |none =>
  refine qyT (tx l) 2 hG (fun op w=>?_) 25 1 (by omega) (by omega) 30 (by omega)
  cases e:(qx (op,w,tx l)).2.1
  ·rfl
  ·have:=(huniq op w e).1
   rw[hd] at this
   cases this
 |some i =>
  obtain⟨op,rd,rn,rm,ra,imm,cond,w,rfl,hr,hok,hlen,hh⟩:=qLb hl hd
  have hb:=qPa hok
  refine qyY (tx l) 2 hG hb.2 (fun op' w' e=>?_) (qIT hr hok (by rw[←hh,qIN]) (by unfold qes;rw[←hh];exact qAh (fun _=>rfl) (fun _=>rfl) _) (qK4 hlen)) (op-1).toNat 1 (by omega) (by omega) 30 (by omega)
  obtain⟨a,b,c⟩:=huniq op' w' e
  rw[hd] at a
  have a:=Option.some.inj a
  rw[←a] at b c
  exact⟨b.symm,c.symm⟩
theorem qR7 (lx ly:List Bool) (hx:lx.length=16) (hy:ly.length=16):LoopN.res qbV ((),0,0,4,tx lx++tx ly,1) zI=(match qcd lx ly with|some i=>some (1,4,0,i.1,i) |none=>some (0,0,0,26,zI)):=by
 have htx:tx lx++tx ly=tx (lx++ly):=(List.map_append ..).symm
 rw[htx]
 have hG:=fun op w=>qMy op w (lx++ly)
 have huniq:∀(op:Int) (w:Bool),(qx (op,w,tx (lx++ly))).2.1=true→qcd lx ly=some (qx (op,w,tx (lx++ly))).1∧(qx (op,w,tx (lx++ly))).1.1=op∧(qx (op,w,tx (lx++ly))).1.2.2.2.2.2.2.2.1=w:=by
  obtain⟨x0,x1,x2,x3,x4,x5,x6,x7,x8,x9,x10,x11,x12,x13,x14,x15,rfl⟩:=qt3 hx
  obtain⟨y0,y1,y2,y3,y4,y5,y6,y7,y8,y9,y10,y11,y12,y13,y14,y15,rfl⟩:=qt3 hy
  intro op w h
  obtain⟨a,b,c⟩:=qQN x0 x1 x2 x3 x4 x5 x6 x7 x8 x9 x10 x11 x12 x13 x14 x15 y0 y1 y2 y3 y4 y5 y6 y7 y8 y9 y10 y11 y12 y13 y14 y15 op w h
  exact⟨qOv a,b,c⟩
 cases hd:qcd lx ly with
 |none =>
  refine qyT (tx (lx++ly)) 4 hG (fun op w=>?_) 25 1 (by omega) (by omega) 30 (by omega)
  cases e:(qx (op,w,tx (lx++ly))).2.1
  ·rfl
  ·have:=(huniq op w e).1
   rw[hd] at this
   cases this
 |some i =>
  obtain⟨op,rd,rn,rm,ra,imm,cond,w,rfl,hr,hok,hlen,hh,hh2⟩:=qN7 hx hy hd
  have hb:=qPa hok
  have hbad:qes op w (lx++ly)=false:=by
   unfold qes
   rw[show(qb (op,w))=(qb (op,w)).take 16++(qb (op,w)).drop 16 from(List.take_append_drop ..).symm,List.zip_append (by rw[List.length_take,hx];omega),List.any_append,←hh,←hh2,
    qAh (fun _=>rfl) (fun _=>rfl) _,qAh (fun _=>rfl) (fun _=>rfl) _]
   rfl
  refine qyY (tx (lx++ly)) 4 hG hb.2 (fun op' w' e=>?_) (qIT hr hok (by rw[List.length_append];omega) hbad (qK4 hlen)) (op-1).toNat 1 (by omega) (by omega) 30 (by omega)
  obtain⟨a,b,c⟩:=huniq op' w' e
  rw[hd] at a
  have a:=Option.some.inj a
  rw[←a] at b c
  exact⟨b.symm,c.symm⟩
end Go.Av
end
section
namespace Go.Av
open Go
theorem five (l:List Bool) (hl:l.length=16):(List.drop (Int.toNat 0) (List.take (Int.toNat 5) (tx l))==[49,49,49,48,49]||(List.drop (Int.toNat 0) (List.take (Int.toNat 5) (tx l))==[49,49,49,49,48]||List.drop (Int.toNat 0) (List.take (Int.toNat 5) (tx l))==[49,49,49,49,49]))=isL l:=by
 obtain⟨x0,x1,x2,x3,x4,x5,x6,x7,x8,x9,x10,x11,x12,x13,x14,x15,rfl⟩:=qt3 hl
 cases x0<;>cases x1<;>cases x2<;>cases x3<;>cases x4<;>rfl
theorem qR8 (s:List UInt8):(qfv s).val=some (qbv s):=by
 unfold qfv qbv
 have key:∀b:Bool,b=false∨b=true:=by decide
 rcases key (decide (qh s<2)) with h2 |h2
 ·have h2':¬((s.length:Nat):Int)<2:=of_decide_eq_false h2
  have g:qb2 (s,0)=true:=by
   simp only[qb2,Bool.or_eq_true,Bool.and_eq_true,beq_iff_eq,decide_eq_true_eq]
   exact .inl ⟨trivial,by show(2:Int)≤((s.length:Nat):Int);omega⟩
  have hv:qbt (s,0)=tx (hx s 0):=rfl
  have hb:Nat.ble 59392 (qfm s 0)=isL (hx s 0):=by rw[←qQI (qmX s 0),qS4]
  have h5:decide (5≤qh (tx (hx s 0)))=true:=qK (by simp only[qh,qu3,qmX];omega)
  refine(qv h2).trans ((qe (by rw[g,hv,h5];rfl)).trans ?_)
  rw[h2,hb,hv]
  rcases key (isL (hx s 0)) with hi |hi
  ·refine(qv (by rw[five _ (qmX s 0),hi])).trans ?_
   rw[hi]
   rfl
  ·refine(qe (by rw[five _ (qmX s 0),hi])).trans ?_
   rw[hi]
   rfl
 ·refine(qe h2).trans ?_
  rw[h2]
  rfl
theorem qQR (s:List UInt8):qfo s=true∧qcO s=qbv s:=by
 have h:=qR8 s
 exact⟨by unfold qfo;rw[h];rfl,by unfold qcO PO.qQ;rw[h];rfl⟩
theorem qJe (s:List UInt8):(qeC s).val=some (qjv s):=by
 obtain⟨gs,vs⟩:=qQR s
 have key:∀b:Bool,b=false∨b=true:=by decide
 unfold qeC
 rw[vs]
 refine(qe gs).trans ?_
 unfold qjv
 rcases key (decide (qh s<2)) with h2 |h2
 ·have h2':¬((s.length:Nat):Int)<2:=of_decide_eq_false h2
  have g:qb2 (s,0)=true:=by
   simp only[qb2,Bool.or_eq_true,Bool.and_eq_true,beq_iff_eq,decide_eq_true_eq]
   exact .inl ⟨trivial,by show(2:Int)≤((s.length:Nat):Int);omega⟩
  have hv:qbt (s,0)=tx (hx s 0):=rfl
  rcases key (Nat.ble 59392 (qfm s 0)) with hb |hb
  ·have hs:qbv s=2:=by unfold qbv;rw[h2,hb];rfl
   rw[hs,h2,hb]
   refine(qv (by rfl)).trans ((qe g).trans ((qe (by rfl)).trans ?_))
   have hl:=qRm (hx s 0) (qmX s 0)
   cases hd:qcz (hx s 0) with
   |none =>
    rw[hd] at hl
    refine(qdl hl).trans ?_
    rfl
   |some i =>
    rw[hd] at hl
    refine(qdl hl).trans ?_
    rfl
  ·have hs:qbv s=4:=by unfold qbv;rw[h2,hb];rfl
   rw[hs,h2,hb]
   rcases key (decide (qh s<4)) with h4 |h4
   ·have h4':¬((s.length:Nat):Int)<4:=of_decide_eq_false h4
    have g1:qb2 (s,1)=true:=by
     simp only[qb2,Bool.or_eq_true,Bool.and_eq_true,beq_iff_eq,decide_eq_true_eq]
     exact .inr ⟨trivial,by show(4:Int)≤((s.length:Nat):Int);omega⟩
    have hv1:qbt (s,1)=tx (hx s 1):=rfl
    have hroom:Nat.ble (List.length (qbt (s,0))+List.length (qbt (s,1))) 9223372036854775807=true:=by
     rw[hv,hv1,qu3,qu3,qmX,qmX]
     decide
    rw[h4]
    refine(qv (by rfl)).trans ((qe g).trans ((qe (by rw[g1,hroom];rfl)).trans ?_))
    have hl:=qR7 (hx s 0) (hx s 1) (qmX s 0) (qmX s 1)
    cases hd:qcd (hx s 0) (hx s 1) with
    |none =>
     rw[hd] at hl
     refine(qdl hl).trans ?_
     rfl
    |some i =>
     rw[hd] at hl
     refine(qdl hl).trans ?_
     rfl
   ·rw[h4]
    refine(qe (by rfl)).trans ?_
    rfl
 ·have hs:qbv s=0:=by unfold qbv;rw[h2];rfl
  rw[hs,h2]
  refine(qe (by rfl)).trans ?_
  rfl
end Go.Av
end
section
namespace Go.Av
open Go
theorem qQH (q:Nat):q ^^^ 1=if q % 2=1 then q-1 else q+1:=by
 have h1:(q ^^^ 1) / 2=q / 2:=by
  rw[Nat.xor_div_two]
  exact Nat.xor_zero _
 have h2:decide ((q ^^^ 1) % 2=1)=(decide (q % 2=1) ^^ true):=by
  rw[←Nat.testBit_zero,Nat.testBit_xor,Nat.testBit_zero]
  rfl
 by_cases hq:q % 2=1
 ·rw[if_pos hq]
  rw[decide_eq_true hq] at h2
  have h3:(q ^^^ 1) % 2≠1:=of_decide_eq_false h2
  omega
 ·rw[if_neg hq]
  rw[decide_eq_false hq] at h2
  have h3:(q ^^^ 1) % 2=1:=of_decide_eq_true h2
  omega
theorem qQq (m k:Nat):m ^^^ 2 ^ k=if m / 2 ^ k % 2=1 then m-2 ^ k else m+2 ^ k:=by
 have hp:0<2 ^ k:=Nat.two_pow_pos k
 have e:m ^^^ 2 ^ k=2 ^ k*(m / 2 ^ k ^^^ 1)+m % 2 ^ k:=by
  apply Nat.eq_of_testBit_eq
  intro i
  rw[Nat.testBit_xor,Nat.testBit_two_pow_mul_add _ (Nat.mod_lt _ hp),Nat.testBit_two_pow]
  by_cases hi:i<k
  ·rw[if_pos hi,Nat.testBit_mod_two_pow]
   have:¬k=i:=by omega
   simp[hi,this]
  ·have h1:(1:Nat).testBit (i-k)=decide (0=i-k):=by
    rw[show(1:Nat)=2 ^ 0 from rfl,Nat.testBit_two_pow]
   rw[if_neg hi,Nat.testBit_xor,Nat.testBit_div_two_pow,h1,show i-k+k=i by omega]
   congr 1
   simp only[decide_eq_decide]
   omega
 rw[e,qQH]
 have hm:=Nat.div_add_mod m (2 ^ k)
 generalize m / 2 ^ k=q at *
 generalize m % 2 ^ k=r at *
 split
 ·rw[Nat.mul_sub,Nat.mul_one]
  have:2 ^ k≤2 ^ k*q:=Nat.le_mul_of_pos_right _ (by omega)
  omega
 ·rw[Nat.mul_add,Nat.mul_one]
  omega
theorem qNi (a b:Int):qep (a,b)=qnb (a,b):=by
 have hk:(kk b:Nat)<32:=qs3 b
 show((flip (wn a) (kk b):Nat):Int)=((wn a ^^^ wn (qC .i64 1 ((kk b:Nat):Int)):Nat):Int)
 have e:wn (qC .i64 1 ((kk b:Nat):Int))=2 ^ kk b:=by
  have hp:2 ^ kk b≤2 ^ 31:=Nat.pow_le_pow_right (by decide) (by omega)
  have:=qKY 1 (kk b) (by omega) (by omega)
  rw[Nat.one_mul] at this
  rw[show(1:Int)=((1:Nat):Int) from rfl,this]
  exact qgp (by omega)
 rw[e,qQq]
 unfold flip bt
 cases h:(wn a / 2 ^ kk b % 2==1) with
 |true =>
  simp only[beq_iff_eq] at h
  rw[if_pos h]
  rfl
 |false =>
  simp only[beq_eq_false_iff_ne,ne_eq] at h
  rw[if_neg h]
  rfl
theorem qQW (s:qG.den) (f:qw.den) (hc:qE f=0) (hs:List.length s.1=15):(qfT (s,f)).val=some (qbW s f):=by
 obtain⟨k,p,r,b,⟨⟩⟩:=f
 unfold qfT qbW
 have hreg:=qCM k p r b hc
 cases h2:(k==(2:Int)) with
 |true =>
  have h3:(k==(3:Int))=false:=by
   simp only[beq_iff_eq] at h2
   rw[h2]
   rfl
  have hr:inRange r 15=true:=by
   rw[h2] at hreg
   simpa using hreg
  refine(qe rfl).trans ((qe hr).trans ((qe hr).trans ((qv h3).trans ?_)))
  rw[qNi]
  rfl
 |false =>
  refine(qv rfl).trans ?_
  simp only[cond_false]
  cases h3:(k==(3:Int)) with
  |false =>
   exact(qv rfl).trans rfl
  |true =>
   refine(qe rfl).trans ?_
   simp only[cond_true]
   obtain⟨rs,pc,N,Z,C,V,⟨⟩⟩:=s
   show some ((rs,pc,!(N==(b==(0:Int))),!(Z==(b==(1:Int))),!(C==(b==(2:Int))),!(V==(b==(3:Int))),()):qG.den)=some _
   cases b0:(b==(0:Int))
   ·cases b1:(b==(1:Int))
    ·cases b2:(b==(2:Int))
     ·cases b3:(b==(3:Int))<;>cases N<;>cases Z<;>cases C<;>cases V<;>rfl
     ·have b3:(b==(3:Int))=false:=by simp only[beq_iff_eq] at b2;rw[b2];rfl
      rw[b3]
      cases N<;>cases Z<;>cases C<;>cases V<;>rfl
    ·have b2:(b==(2:Int))=false:=by simp only[beq_iff_eq] at b1;rw[b1];rfl
     have b3:(b==(3:Int))=false:=by simp only[beq_iff_eq] at b1;rw[b1];rfl
     rw[b2,b3]
     cases N<;>cases Z<;>cases C<;>cases V<;>rfl
   ·have b1:(b==(1:Int))=false:=by simp only[beq_iff_eq] at b0;rw[b0];rfl
    have b2:(b==(2:Int))=false:=by simp only[beq_iff_eq] at b0;rw[b0];rfl
    have b3:(b==(3:Int))=false:=by simp only[beq_iff_eq] at b0;rw[b0];rfl
    rw[b1,b2,b3]
    cases N<;>cases Z<;>cases C<;>cases V<;>rfl
theorem quL (f:qw.den):qb4 f=qE f:=by
 obtain⟨k,p,r,b,⟨⟩⟩:=f
 have T:qE (k,p,r,b,())=bif !bif bif k==0 then k==0 else k==1 then decide (p≥0) else bif k==2 then decide (p≥0)&&(decide (r≥0)&&(decide (r≤14)&&(decide (b≥0)&&decide (b<32)))) else k==3&&(decide (p≥0)&&(decide (b≥0)&&decide (b<4))) then 2 else 0:=by
  unfold qE PO.qQ qiQ
  simp only[PO.val]
  cases (!bif bif k==0 then k==0 else k==1 then decide (p≥0) else bif k==2 then decide (p≥0)&&(decide (r≥0)&&(decide (r≤14)&&(decide (b≥0)&&decide (b<32)))) else k==3&&(decide (p≥0)&&(decide (b≥0)&&decide (b<4))))<;>rfl
 have U:qb4 (k,p,r,b,())=bif decide (p≥0)&&(k==0||(k==1||(k==2&&(decide (r≥0)&&(decide (r<15)&&(decide (b≥0)&&decide (b<32))))||k==3&&(decide (b≥0)&&decide (b<4))))) then 0 else 2:=by
  unfold qb4 PO.qQ qgq
  simp only[PO.val]
  cases (decide (p≥0)&&(k==0||(k==1||(k==2&&(decide (r≥0)&&(decide (r<15)&&(decide (b≥0)&&decide (b<32))))||k==3&&(decide (b≥0)&&decide (b<4))))))<;>rfl
 rw[T,U]
 have e15:∀r:Int,decide (r<15)=decide (r≤14):=fun r=>by rw[decide_eq_decide];omega
 rw[e15 r]
 cases h0:(k==(0:Int))
 ·cases h1:(k==(1:Int))
  ·cases h2:(k==(2:Int))
   ·cases h3:(k==(3:Int))<;>cases decide (p≥0)<;>cases (decide (b≥0)&&decide (b<4))<;>rfl
   ·have h3:(k==(3:Int))=false:=by simp only[beq_iff_eq] at h2;rw[h2];rfl
    rw[h3]
    cases decide (p≥0)<;>cases (decide (r≥0)&&(decide (r≤14)&&(decide (b≥0)&&decide (b<32))))<;>rfl
  ·cases decide (p≥0)<;>rfl
 ·cases decide (p≥0)<;>rfl
theorem qOu (s:List UInt8):qjv (s.take 4)=qjv s:=by
 have hl:(s.take 4).length=min 4 s.length:=List.length_take
 have g:∀i,i<4→List.getD (s.take 4) i 0=List.getD s i 0:=fun i hi=>by
  rw[List.getD_eq_getElem?_getD,List.getD_eq_getElem?_getD,List.getElem?_take,if_pos hi]
 have h0:qfm (s.take 4) 0=qfm s 0:=by unfold qfm;rw[g _ (by omega),g _ (by omega)]
 have h1:qfm (s.take 4) 1=qfm s 1:=by unfold qfm;rw[g _ (by omega),g _ (by omega)]
 have e2:decide (qh (s.take 4)<2)=decide (qh s<2):=by rw[decide_eq_decide];simp only[qh,hl];omega
 have e4:decide (qh (s.take 4)<4)=decide (qh s<4):=by rw[decide_eq_decide];simp only[qh,hl];omega
 unfold qjv hx
 rw[h0,h1,e2,e4]
theorem qTm (s:List UInt8):qez s=true:=by unfold qez;rw[qJe];rfl
theorem qTu (s:List UInt8):qdP s=qjv s:=by unfold qdP PO.qQ;rw[qJe];rfl
end Go.Av
end
section
namespace Go.Av
open Go
theorem qrL (a b c d:Int) (hc:-9223372036854775808≤c∧c<9223372036854775808):q7 ((a,b,c,()),d)=qbb ((a,b,c,()),d):=by
 have m1:∀p q:Int,(qoT p q<0)↔(p<0∨q<0):=fun p q=>by
  simp only[qoT,Bool.cond_eq_ite,decide_eq_true_eq]
  split<;>omega
 have m2:∀p q n:Int,(imax p q > n)↔(p > n∨q > n):=fun p q n=>by
  simp only[imax,Bool.cond_eq_ite,decide_eq_true_eq]
  split<;>omega
 have m3:¬c<4→w64 (c-4)=c-4:=fun h=>qt (by omega) (by omega)
 simp only[q7,qbb,PO.qQ,qjG,qgF,PO.val,Bool.cond_eq_ite,decide_eq_true_eq,Bool.or_eq_true,bne_iff_ne,m1,m2]
 dsimp only[Ty.den,qc]
 by_cases h4:c<4
 ·generalize w64 (c-4)=e
  repeat' split
  all_goals first|rfl |(exfalso;omega)
 ·rw[m3 h4]
  repeat' split
  all_goals first|rfl |(exfalso;omega)
def le4:List UInt8→Int
 |[a,b,c,d]=>u8I a+256*u8I b+65536*u8I c+16777216*u8I d
 |_=>0
theorem qRR (t:List UInt8):0≤le4 t∧le4 t<4294967296:=by
 unfold le4
 split
 ·rename_i a b c d
  have:=qol a
  have:=qol b
  have:=qol c
  have:=qol d
  omega
 ·decide
theorem four {t:List UInt8} (h:t.length=4):∃a b c d,t=[a,b,c,d]:=by
 match t,h with
 |[a,b,c,d],_=>exact⟨a,b,c,d,rfl⟩
theorem qNj {t:List UInt8} (h:t.length=4):(qgX t).val=some (le4 t,true,()):=by
 obtain⟨a,b,c,d,rfl⟩:=four h
 have ha:=qol a
 have hb:=qol b
 have hc:=qol c
 have hd:=qol d
 unfold qgX
 refine(qv rfl).trans ((qe rfl).trans ?_)
 show some (w64 (w64 (w64 (w64 (u8I a)+w64 (256*w64 (u8I b)))+w64 (65536*w64 (u8I c)))+w64 (16777216*w64 (u8I d))),true,())=some (u8I a+256*u8I b+65536*u8I c+16777216*u8I d,true,())
 rw[ql9,ql9,ql9,ql9,qt (n:=256*u8I b) (by omega) (by omega),qt (n:=65536*u8I c) (by omega) (by omega),qt (n:=16777216*u8I d) (by omega) (by omega),qt (n:=u8I a+256*u8I b) (by omega) (by omega),qt (n:=u8I a+256*u8I b+65536*u8I c) (by omega) (by omega),qt (by omega) (by omega)]
theorem qPM {t:List UInt8} (h:t.length=4):(qok t).val=some (le4 t,true,()):=by
 obtain⟨a,b,c,d,rfl⟩:=four h
 have ha:=a.toNat_lt
 have hb:=b.toNat_lt
 have hc:=c.toNat_lt
 have hd:=d.toNat_lt
 unfold qok
 refine(qv rfl).trans ((qe rfl).trans ((qe rfl).trans ((qe rfl).trans ((qe rfl).trans ?_))))
 show some (bor .i64 (bor .i64 (bor .i64 (bor .i64 0 (qC .i64 (w64 (u8I a)) 0)) (qC .i64 (w64 (u8I b)) 8)) (qC .i64 (w64 (u8I c)) 16)) (qC .i64 (w64 (u8I d)) 24),true,())=some (u8I a+256*u8I b+65536*u8I c+16777216*u8I d,true,())
 rw[ql9,ql9,ql9,ql9]
 have e0:bor .i64 0 (qC .i64 (u8I a) 0)=((a.toNat:Nat):Int):=by
  have:=qxd 0 a.toNat 0 (by omega) (by omega) (by omega)
  rw[Nat.pow_zero,Nat.mul_one,Nat.add_zero] at this
  exact this
 have e1:bor .i64 ((a.toNat:Nat):Int) (qC .i64 (u8I b) 8)=((b.toNat*2 ^ 8+a.toNat:Nat):Int):=qxd a.toNat b.toNat 8 (by omega) (by omega) (by omega)
 have e2:bor .i64 ((b.toNat*2 ^ 8+a.toNat:Nat):Int) (qC .i64 (u8I c) 16)=((c.toNat*2 ^ 16+(b.toNat*2 ^ 8+a.toNat):Nat):Int):=qxd _ c.toNat 16 (by omega) (by omega) (by omega)
 have e3:bor .i64 ((c.toNat*2 ^ 16+(b.toNat*2 ^ 8+a.toNat):Nat):Int) (qC .i64 (u8I d) 24)=((d.toNat*2 ^ 24+(c.toNat*2 ^ 16+(b.toNat*2 ^ 8+a.toNat)):Nat):Int):=qxd _ d.toNat 24 (by omega) (by omega) (by omega)
 rw[e0,e1,e2,e3]
 have:((d.toNat*2 ^ 24+(c.toNat*2 ^ 16+(b.toNat*2 ^ 8+a.toNat)):Nat):Int)=u8I a+256*u8I b+65536*u8I c+16777216*u8I d:=by
  unfold u8I
  omega
 rw[this]
def atX (s:List UInt8) (k:Nat):Int:=le4 ((s.drop (4*k)).take 4)
theorem piece (s:List UInt8) (k:Nat) (hk:k<16) (hs:64≤s.length):((s.drop (4*k)).take 4).length=4∧List.drop (Int.toNat (w64 (4*(k:Int)))) (List.take (Int.toNat (w64 (w64 (4*(k:Int))+4))) s)=(s.drop (4*k)).take 4:=by
 have e1:w64 (4*(k:Int))=((4*k:Nat):Int):=by rw[qt (by omega) (by omega)];omega
 have e2:w64 (((4*k:Nat):Int)+4)=((4*k+4:Nat):Int):=by rw[qt (by omega) (by omega)];omega
 refine⟨by rw[List.length_take,List.length_drop];omega,?_⟩
 rw[e1,e2,Int.toNat_natCast,Int.toNat_natCast,List.drop_take,show 4*k+4-4*k=4 by omega]
theorem qCH (s:List UInt8) (k:Nat) (hk:k<16) (hs:64≤s.length):qbi (s,(k:Int))=atX s k:=by
 obtain⟨p1,p2⟩:=piece s k hk hs
 have hg:=qyK s k hk hs
 have hT:(qmB (s,(k:Int))).val=some (atX s k):=by
  unfold qe3 at hg
  unfold qmB at hg ⊢
  cases hc:(decide (0≤w64 (w64 (4*(k:Int))+4))&&decide (w64 (w64 (4*(k:Int))+4)≤qh s)&&decide (0≤w64 (4*(k:Int)))&&decide (w64 (4*(k:Int))≤w64 (w64 (4*(k:Int))+4))&&qog (List.drop (Int.toNat (w64 (4*(k:Int)))) (List.take (Int.toNat (w64 (w64 (4*(k:Int))+4))) s))) with
  |false=>rw[qv hc] at hg;cases hg
  |true =>
   refine(qe rfl).trans ?_
   show some (qpR (List.drop (Int.toNat (w64 (4*(k:Int)))) (List.take (Int.toNat (w64 (w64 (4*(k:Int))+4))) s))).1=_
   rw[p2]
   unfold qpR PO.qQ
   rw[qPM p1]
   rfl
 unfold qbi PO.qQ
 rw[hT]
 rfl
theorem qSv (s:List UInt8) (k:Nat) (hk:k<16) (hs:64≤s.length):qcR (s,(k:Int))=true∧qA (s,(k:Int))=atX s k:=by
 obtain⟨p1,p2⟩:=piece s k hk hs
 have e1:w64 (4*(k:Int))=4*(k:Int):=qt (by omega) (by omega)
 have e2:w64 (4*(k:Int)+4)=4*(k:Int)+4:=qt (by omega) (by omega)
 have hT:(qgW (s,(k:Int))).val=some (atX s k):=by
  unfold qgW
  refine(qe ?_).trans ?_
  ·show(decide (0≤w64 (w64 (4*(k:Int))+4))&&decide (w64 (w64 (4*(k:Int))+4)≤qh s)&&decide (0≤w64 (4*(k:Int)))&&decide (w64 (4*(k:Int))≤w64 (w64 (4*(k:Int))+4))&&qfk (List.drop (Int.toNat (w64 (4*(k:Int)))) (List.take (Int.toNat (w64 (w64 (4*(k:Int))+4))) s)))=true
   rw[p2]
   have:qfk ((s.drop (4*k)).take 4)=true:=by unfold qfk;rw[qNj p1];rfl
   rw[this,e1,e2]
   simp only[qh,Bool.and_eq_true,decide_eq_true_eq,Bool.and_true]
   exact⟨⟨⟨by omega,by omega⟩,by omega⟩,by omega⟩
  ·show some (qg0 (List.drop (Int.toNat (w64 (4*(k:Int)))) (List.take (Int.toNat (w64 (w64 (4*(k:Int))+4))) s))).1=_
   rw[p2]
   unfold qg0 PO.qQ
   rw[qNj p1]
   rfl
 exact⟨by unfold qcR;rw[hT];rfl,by unfold qA PO.qQ;rw[hT];rfl⟩
theorem qzq (v:Int):(qcP v).length=4:=by rw[qxm];rfl
def qhL:List Int→List UInt8→List UInt8
 |[],t=>t
 |v::l,t=>qcP v++qhL l t
theorem qG5 (t:List UInt8):∀l:List Int,(qhL l t).length=4*l.length+t.length
 |[]=>by simp[qhL]
 |v::l=>by rw[qhL,List.length_append,qzq,qG5 t l,List.length_cons];omega
theorem qDW:∀(l:List Int) (t:List UInt8),t.length+4*l.length≤1000→(qw3 l t).val=some (t++qhL l [])
 |[],t,_=>by
  rw[qw3,qhL,List.append_nil]
  rfl
 |v::l,t,h=>by
  have b:qb5 v=qcP v:=rfl
  simp only[List.length_cons] at h
  rw[qw3,qhL]
  refine(qe (Nat.ble_eq_true_of_le (by rw[b,qzq];omega))).trans ((qDW l (t++qb5 v) (by rw[List.length_append,b,qzq];omega)).trans ?_)
  rw[List.append_assoc]
  rfl
theorem qMC (h:qcL.den):(qgP h).val=some (qhL (qjR h) []):=(qDW (qjR h) [] (by show 0+4*16≤1000;omega)).trans (by rw[List.nil_append])
theorem qCf (h:qcL.den):qd4 h=true∧qcV h=qhL (qjR h) []:=by
 have hT:=qMC h
 exact⟨by unfold qd4;rw[hT];rfl,by unfold qcV PO.qQ;rw[hT];rfl⟩
theorem qJI (t:List UInt8):∀l:List Int,qhL l []++t=qhL l t
 |[]=>rfl
 |v::l=>by rw[qhL,qhL,List.append_assoc,qJI t l]
def qw6:List Int→List UInt8→Bool
 |[],_=>true
 |v::l,s=>(le4 (s.take 4)==(wn v:Int))&&qw6 l (s.drop 4)
theorem qNX (v:Int) (t:List UInt8) (h:t.length=4):(qcP v==t)=(le4 t==(wn v:Int)):=by
 obtain⟨a,b,c,d,rfl⟩:=four h
 rw[qxm,Bool.eq_iff_iff]
 simp only[beq_iff_eq]
 have hw:=qdB v
 have ha:=a.toNat_lt
 have hb:=b.toNat_lt
 have hc:=c.toNat_lt
 have hd:=d.toNat_lt
 have back:∀x:UInt8,toByte ((x.toNat:Nat):Int)=x:=fun x=>by
  unfold toByte
  rw[Int.toNat_natCast]
  exact UInt8.ofNat_toNat
 constructor
 ·intro e
  injection e with e1 e
  injection e with e2 e
  injection e with e3 e
  injection e with e4 e
  subst e1 e2 e3 e4
  show((toByte ((wn v % 256:Nat):Int)).toNat:Int)+256*((toByte ((wn v / 256 % 256:Nat):Int)).toNat:Int)+65536*((toByte ((wn v / 65536 % 256:Nat):Int)).toNat:Int)+16777216*((toByte ((wn v / 16777216 % 256:Nat):Int)).toNat:Int)=_
  rw[qlf (Nat.mod_lt _ (by omega)),qlf (Nat.mod_lt _ (by omega)),qlf (Nat.mod_lt _ (by omega)),qlf (Nat.mod_lt _ (by omega))]
  omega
 ·intro e
  have e:((a.toNat:Nat):Int)+256*((b.toNat:Nat):Int)+65536*((c.toNat:Nat):Int)+16777216*((d.toNat:Nat):Int)=(wn v:Int):=e
  rw[show wn v % 256=a.toNat by omega,show wn v / 256 % 256=b.toNat by omega,show wn v / 65536 % 256=c.toNat by omega,show wn v / 16777216 % 256=d.toNat by omega,back,back,back,back]
theorem qKy:∀(l:List Int) (s:List UInt8),4*l.length≤s.length→(qhL l (s.drop (4*l.length))==s)=qw6 l s
 |[],s,_=>by
  rw[qhL,qw6]
  simp
 |v::l,s,h=>by
  have hl:4*(l.length+1)≤s.length:=h
  have h4:(s.take 4).length=4:=by rw[List.length_take];omega
  have hs:s=s.take 4++s.drop 4:=(List.take_append_drop 4 s).symm
  rw[qhL,qw6,←qNX v _ h4,←qKy l (s.drop 4) (by rw[List.length_drop];omega),List.drop_drop,List.length_cons,show 4*(l.length+1)=4+4*l.length by omega]
  rw[Bool.eq_iff_iff]
  simp only[beq_iff_eq,Bool.and_eq_true]
  constructor
  ·intro e
   have e2:qcP v++qhL l (List.drop (4+4*l.length) s)=s.take 4++s.drop 4:=e.trans hs
   have:=List.append_inj e2 (by rw[qzq,h4])
   exact this
  ·rintro⟨e1,e2⟩
   rw[e1,e2]
   exact hs.symm
theorem qQt (n:Nat) (h:n % 2=0):n |||1=n+1:=by
 have h1:(n |||1) / 2=n / 2:=by
  rw[Nat.or_div_two]
  exact Nat.or_zero _
 have h2:decide ((n |||1) % 2=1)=(decide (n % 2=1)||true):=by
  rw[←Nat.testBit_zero,Nat.testBit_or,Nat.testBit_zero]
  rfl
 have h3:(n |||1) % 2=1:=by
  rw[Bool.or_true] at h2
  exact of_decide_eq_true h2
 omega
theorem qKw {n:Int} (h0:0≤n) (h1:n<9223372036854775808) (h2:n % 2=0):bor .i64 n 1=n+1:=by
 obtain⟨m,rfl⟩:∃m:Nat,n=(m:Int):=⟨n.toNat,by omega⟩
 have:=qIM (a:=m) (b:=1) (by omega) (by decide)
 rw[show(1:Int)=((1:Nat):Int) from rfl,this,qQt m (by omega)]
 rfl
def okH (h:qcL.den) (n:Int):Bool:=q7 (h.2.2.1,n)==0&&!(decide (h.2.2.2.1<0)||(decide (h.2.2.2.1≥3)||(!qce (h.1,n)||!qce (h.2.1,n))))
theorem qOU (h:qcL.den) (n:Int):(qdG (h,n) != (0:Int))=!okH h n:=by
 unfold qdG PO.qQ qkw okH
 cases h1:(q7 (h.2.2.1,n)==(0:Int)) with
 |false =>
  have h2:(q7 (h.2.2.1,n) != (0:Int))=true:=by simpa using h1
  rw[qe h2]
  exact h2
 |true =>
  have h2:(q7 (h.2.2.1,n) != (0:Int))=false:=by simpa using h1
  rw[qv h2,qe (by show(decide (h.2.2.2.1<0)||(decide (h.2.2.2.1≥3)||(!qce (h.1,n)||true)))=true;simp)]
  cases h3:(decide (h.2.2.2.1<0)||(decide (h.2.2.2.1≥3)||(!qce (h.1,n)||!qce (h.2.1,n)))) with
  |false=>rfl
  |true=>rfl
theorem qz7 (a n:Int):qcE (a,n)=qce (a,n):=by
 show(decide (a≥64)&&(decide (a<n)&&Int.tmod a 2==0))=(decide (a≥64)&&(decide (a<n)&&qbC .i64 a 1==0))
 have h:qbC .i64 a 1=a % 2:=qjW a 1 (by omega)
 have e:(Int.tmod a 2==0)=(a % 2==0):=by
  rw[Bool.eq_iff_iff]
  simp only[beq_iff_eq]
  rw[Int.tmod_eq_emod]
  split<;>omega
 rw[h,e]
theorem qNt (h:qcL.den) (s:List UInt8) (hs:64≤s.length) (hl:s.length<9223372036854775808) (hc:-9223372036854775808≤(show Int from h.2.2.1.2.2.1)∧(show Int from h.2.2.1.2.2.1)<9223372036854775808) :
  ∃r,(qe6 (h,s.drop 64)).val=some r∧(okH h (qh s)=false→r.2.1≠(0:Int))∧(okH h (qh s)=true→r=(qhL (qjR h) (s.drop 64),0,())):=by
 have hw:w64 (64+qh (s.drop 64))=qh s:=by
  simp only[qh,List.length_drop]
  rw[qt (by omega) (by omega)]
  omega
 have hck:qbb (h.2.2.1,qh s)=q7 (h.2.2.1,qh s):=(qrL h.2.2.1.1 h.2.2.1.2.1 h.2.2.1.2.2.1 (qh s) hc).symm
 unfold qe6 okH
 show ∃r,(PO.ite (qbb (h.2.2.1,w64 (64+qh (s.drop 64))) != 0) (.ret ([],qbb (h.2.2.1,w64 (64+qh (s.drop 64))),())) (.ite (decide (h.2.2.2.1<0)||(decide (h.2.2.2.1 > 2)||(!qcE (h.1,w64 (64+qh (s.drop 64)))||true)))
  (.ite (decide (h.2.2.2.1<0)||(decide (h.2.2.2.1 > 2)||(!qcE (h.1,w64 (64+qh (s.drop 64)))||!qcE (h.2.1,w64 (64+qh (s.drop 64)))))) (.ret ([],2,()))
   (.ite (qd4 h&&Nat.ble (List.length (qcV h)+List.length (s.drop 64)) 9223372036854775807) (.ret (qcV h++s.drop 64,0,())) .fail)) .fail)).val=some r∧_
 rw[hw,hck,qz7,qz7]
 have e3:∀m:Int,decide (m > 2)=decide (m≥3):=fun m=>by rw[decide_eq_decide];omega
 have e3:decide (h.2.2.2.1 > 2)=decide (h.2.2.2.1≥3):=e3 h.2.2.2.1
 rw[e3]
 cases h1:(q7 (h.2.2.1,qh s)==(0:Int)) with
 |false =>
  have h2:(q7 (h.2.2.1,qh s) != (0:Int))=true:=by simpa using h1
  rw[h2]
  exact⟨_,(qe rfl).trans rfl,⟨fun _=>by simpa using h2,fun h=>(by cases h)⟩⟩
 |true =>
  have h2:(q7 (h.2.2.1,qh s) != (0:Int))=false:=by simpa using h1
  rw[h2]
  cases h3:(decide (h.2.2.2.1<0)||(decide (h.2.2.2.1≥3)||(!qce (h.1,qh s)||!qce (h.2.1,qh s)))) with
  |true =>
   exact⟨_,(qv rfl).trans ((qe (by simp)).trans ((qe rfl).trans rfl)),⟨fun _=>by show(2:Int)≠0;decide,fun h=>(by cases h)⟩⟩
  |false =>
   refine⟨_,(qv rfl).trans ((qe (by simp)).trans ((qv rfl).trans ((qe ?_).trans rfl))),⟨fun h=>(by cases h),fun _=>?_⟩⟩
   ·rw[(qCf h).1,(qCf h).2,Bool.true_and]
    have:(qhL (qjR h) []).length=64:=by rw[qG5];rfl
    exact Nat.ble_eq_true_of_le (by rw[this,List.length_drop];omega)
   ·rw[(qCf h).2,qJI]
theorem qAc (s:List UInt8):∀(X:List Int) (k:Nat),qw6 X (s.drop (4*k))=(List.range' k X.length).all fun i=>atX s i==(wn (X.getD (i-k) 0):Int)
 |[],_=>rfl
 |v::l,k=>by
  rw[qw6,List.length_cons,List.range'_succ,List.all_cons,List.drop_drop,show 4*k+4=4*(k+1) by omega,qAc s l (k+1)]
  congr 1
  ·show(le4 _==(wn v:Int))=(atX s k==(wn ((v::l).getD (k-k) 0):Int))
   rw[Nat.sub_self]
   rfl
  ·rw[Bool.eq_iff_iff,List.all_eq_true,List.all_eq_true]
   constructor
   ·intro hh i hi
    have h1:=(List.mem_range'_1.1 hi).1
    have:=hh i hi
    rw[show i-k=(i-(k+1))+1 by omega]
    exact this
   ·intro hh i hi
    have h1:=(List.mem_range'_1.1 hi).1
    have:=hh i hi
    rw[show i-k=(i-(k+1))+1 by omega] at this
    exact this
theorem qOs (rs hn i o r md:Int):qdm (rs,hn,(i,o,r,()),md,())=[537133056,bor .i64 rs 1,bor .i64 hn 1,bor .i64 hn 1,bor .i64 hn 1,bor .i64 hn 1,bor .i64 hn 1,i,o,r,md,bor .i64 hn 1,bor .i64 hn 1,bor .i64 hn 1,bor .i64 hn 1,bor .i64 hn 1]:=by
 kernel_rfl
theorem qru {n:Int} (h0:0≤n) (h1:n<4294967296):(wn n:Int)=n:=by
 rw[qlN]
 omega
theorem qLA (s:List UInt8) (hs:64≤s.length) (h:qcL.den) (hok:okH h (qh s)=true):qw6 (qjR h) s=(List.range' 0 16).all (qmH s (qdm h)):=by
 obtain⟨rs,hn,⟨i,o,r,u1⟩,md,u2⟩:=h
 unfold okH at hok
 simp only[Bool.and_eq_true,Bool.not_eq_true',Bool.or_eq_false_iff,decide_eq_false_iff_not,Bool.not_eq_false',beq_iff_eq] at hok
 obtain⟨c1,c2,c3,c4,c5⟩:=hok
 obtain⟨⟨i0,i1⟩,⟨o0,o1⟩,⟨r0,r1⟩,n1⟩:=qib i o r (qh s) c1
 have c2:(0:Int)≤md:=Int.not_lt.1 c2
 have c3:(3:Int) > md:=Int.not_le.1 c3
 have pl:∀a:Int,qce (a,qh s)=true→64≤a∧a<qh s∧a % 2=0:=fun a ha=>by
  have ha:(decide (a≥64)&&(decide (a<qh s)&&qbC .i64 a 1==0))=true:=ha
  have hb:qbC .i64 a 1=a % 2:=qjW a 1 (by omega)
  rw[hb] at ha
  simp only[Bool.and_eq_true,decide_eq_true_eq,beq_iff_eq] at ha
  exact⟨ha.1,ha.2.1,ha.2.2⟩
 obtain⟨p1,p2,p3⟩:=pl rs c4
 obtain⟨q1,q2,q3⟩:=pl hn c5
 have n1:qh s≤262144:=n1
 have er:(wn (w64 (rs+1)):Int)=bor .i64 rs 1:=by rw[qKw (by omega) (by omega) p3,qt (by omega) (by omega),qru (by omega) (by omega)]
 have eh:(wn (w64 (hn+1)):Int)=bor .i64 hn 1:=by rw[qKw (by omega) (by omega) q3,qt (by omega) (by omega),qru (by omega) (by omega)]
 have ei:(wn i:Int)=i:=qru (by omega) (by omega)
 have eo:(wn o:Int)=o:=qru (by omega) (by omega)
 have ee:(wn r:Int)=r:=qru (by omega) (by omega)
 have em:(wn md:Int)=md:=qru (by omega) (by omega)
 have ea:(wn 537133056:Int)=537133056:=qru (by decide) (by decide)
 have:=qAc s (qjR (rs,hn,(i,o,r,u1),md,u2)) 0
 rw[Nat.mul_zero,List.drop_zero] at this
 rw[this,qOs rs hn i o r md,Bool.eq_iff_iff,List.all_eq_true,List.all_eq_true]
 have key:∀j,j<16→(atX s j==(wn ((qjR (rs,hn,(i,o,r,u1),md,u2)).getD (j-0) 0):Int))=qmH s [537133056,bor .i64 rs 1,bor .i64 hn 1,bor .i64 hn 1,bor .i64 hn 1,bor .i64 hn 1,bor .i64 hn 1,i,o,r,md,bor .i64 hn 1,bor .i64 hn 1,bor .i64 hn 1,bor .i64 hn 1,bor .i64 hn 1] j:=by
  intro j hj
  unfold qmH
  rw[qCH s j hj hs,Nat.sub_zero,Int.toNat_natCast]
  have e2:(wn ((qjR (rs,hn,(i,o,r,u1),md,u2)).getD j 0):Int)=[537133056,bor .i64 rs 1,bor .i64 hn 1,bor .i64 hn 1,bor .i64 hn 1,bor .i64 hn 1,bor .i64 hn 1,i,o,r,md,bor .i64 hn 1,bor .i64 hn 1,bor .i64 hn 1,bor .i64 hn 1,bor .i64 hn 1].getD j (Ty.dflt (Ty.int IntKind.i64)):=by
   have hj2:j=0∨j=1∨j=2∨j=3∨j=4∨j=5∨j=6∨j=7∨j=8∨j=9∨j=10∨j=11∨j=12∨j=13∨j=14∨j=15:=by omega
   rcases hj2 with rfl |rfl |rfl |rfl |rfl |rfl |rfl |rfl |rfl |rfl |rfl |rfl |rfl |rfl |rfl |rfl
   ·exact ea
   ·exact er
   ·exact eh
   ·exact eh
   ·exact eh
   ·exact eh
   ·exact eh
   ·exact ei
   ·exact eo
   ·exact ee
   ·exact em
   ·exact eh
   ·exact eh
   ·exact eh
   ·exact eh
   ·exact eh
  rw[e2]
  simp[bne]
 constructor
 ·intro hh j hj
  rw[←key j (by have:=(List.mem_range'_1.1 hj).2;omega)]
  exact hh j hj
 ·intro hh j hj
  have hj':j<16:=by have:=(List.mem_range'_1.1 hj).2;exact(by simpa [qjR] using this)
  rw[key j hj']
  exact hh j hj
theorem qK8 (s:List UInt8) (hl:s.length<9223372036854775808):(qeZ s).val=some (qS s):=by
 unfold qeZ qS
 cases h1:decide (qh s<64) with
 |true=>exact(qe rfl).trans rfl
 |false =>
  have hs:64≤s.length:=by
   simp only[qh,decide_eq_false_iff_not] at h1
   omega
  have a:=fun k hk=>qSv s k hk hs
  have a1:=a 1 (by omega)
  have a3:=a 3 (by omega)
  have a7:=a 7 (by omega)
  have a8:=a 8 (by omega)
  have a9:=a 9 (by omega)
  have a10:=a 10 (by omega)
  have hH:((w64 (qA (s,1)-1),w64 (qA (s,3)-1),(qA (s,7),qA (s,8),qA (s,9),()),qA (s,10),()):qcL.den)=qeb s:=by
   unfold qeb
   have b:=fun k hk=>qCH s k hk hs
   rw[show qA (s,1)=qbi (s,1) from a1.2.trans (b 1 (by omega)).symm,show qA (s,3)=qbi (s,3) from a3.2.trans (b 3 (by omega)).symm,show qA (s,7)=qbi (s,7) from a7.2.trans (b 7 (by omega)).symm,
    show qA (s,8)=qbi (s,8) from a8.2.trans (b 8 (by omega)).symm,show qA (s,9)=qbi (s,9) from a9.2.trans (b 9 (by omega)).symm,show qA (s,10)=qbi (s,10) from a10.2.trans (b 10 (by omega)).symm]
  have hc:-9223372036854775808≤(show Int from(qeb s).2.2.1.2.2.1)∧(show Int from(qeb s).2.2.1.2.2.1)<9223372036854775808:=by
   have e:(show Int from(qeb s).2.2.1.2.2.1)=atX s 9:=qCH s 9 (by omega) hs
   have:=qRR ((s.drop (4*9)).take 4)
   rw[e]
   unfold atX
   omega
  obtain⟨r,r1,r2,r3⟩:=qNt (qeb s) s hs hl hc
  have hd:List.drop (Int.toNat 64) (List.take (Int.toNat (qh s)) s)=s.drop 64:=by
   have:Int.toNat (qh s)=s.length:=by simp only[qh];omega
   rw[this,List.take_length]
   rfl
  have gB:qe4 (qeb s,s.drop 64)=true:=by unfold qe4;rw[r1];rfl
  have vB:qd6 (qeb s,s.drop 64)=r:=by unfold qd6 PO.qQ;rw[r1];rfl
  refine(qv rfl).trans ((qe a1.1).trans ((qe a3.1).trans ((qe a7.1).trans ((qe a8.1).trans ((qe a9.1).trans ((qe a10.1).trans ?_))))))
  simp only[hH,hd,gB,vB]
  refine(qe ?_).trans ?_
  ·simp only[qh,Bool.and_eq_true,decide_eq_true_eq,Bool.and_true]
   exact⟨Int.le_refl _,by omega⟩
  simp only[cond_false]
  rw[qOU]
  cases hok:okH (qeb s) (qh s) with
  |false =>
   have h2:(r.2.1 != (0:Int))=true:=by simpa using r2 hok
   refine(qe ?_).trans rfl
   rw[h2,Bool.true_or]
  |true =>
   have h2:=r3 hok
   rw[h2]
   have hj:(qhL (qjR (qeb s)) (s.drop 64)==s)=qw6 (qjR (qeb s)) s:=qKy (qjR (qeb s)) s hs
   rw[qLA s hs (qeb s) hok] at hj
   show(PO.ite ((0:Int) != 0||!(qhL (qjR (qeb s)) (s.drop 64)==s)) _ _).val=some (bif (List.range' 0 16).all (qmH s (qdm (qeb s))) then(qeb s,0,()) else(qtP,4,()))
   rw[hj]
   cases (List.range' 0 16).all (qmH s (qdm (qeb s))) with
   |true=>exact(qv rfl).trans rfl
   |false=>exact(qe rfl).trans rfl
end Go.Av
end
section
namespace Go.Av
open Go
theorem qDI:∀(l:List (Int×Int×Bool×Unit)) (o j:Nat),j<l.length→o≤((qbp o l).getD j (0,0)).1
 |[],_,_,h=>by cases h
 |r::l,o,0,_=>Nat.le_refl _
 |r::l,o,j+1,h=>by
  have:=qDI l (o+r.2.1.toNat) j (by simpa using h)
  show o≤((qbp (o+r.2.1.toNat) l).getD j (0,0)).1
  omega
theorem qsL:∀(l:List (Int×Int×Bool×Unit)) (o j k:Nat),j<k→k<l.length→((qbp o l).getD j (0,0)).1+(l.getD j qbK).2.1.toNat≤((qbp o l).getD k (0,0)).1
 |[],_,_,_,_,h=>by cases h
 |r::l,o,0,k+1,_,h=>qDI l (o+r.2.1.toNat) k (by simpa using h)
 |r::l,o,j+1,k+1,hjk,h=>qsL l (o+r.2.1.toNat) j k (by omega) (by simpa using h)
 |_::_,_,0,0,h,_=>by cases h
 |_::_,_,_+1,0,h,_=>by cases h
structure StFit (s:qb0.den):Prop where
 ok:qqB s
 flash:List.length s.2.1≤262144
 inn:(0≤(show Int from s.1.1)∧(show Int from s.1.1)≤65536)
 out:(0≤(show Int from s.1.2.1)∧(show Int from s.1.2.1)≤65536)
 rail:(4≤(show Int from s.1.2.2.1)∧(show Int from s.1.2.2.1)≤65536)
 input:((List.length s.2.2.1:Nat):Int)=(show Int from s.1.1)
theorem qRx (s:qb0.den):(rgX s).length=7:=rfl
theorem qQv (i o r n:Int) (hn:0≤n∧n≤262144) (hi:0≤i∧i≤65536) (ho:0≤o∧o≤65536) (hr:4≤r∧r≤65536):∀j k,j<k→k<7→((qd7 (i,o,r,()) n).getD j qbK).1+((qd7 (i,o,r,()) n).getD j qbK).2.1≤((qd7 (i,o,r,()) n).getD k qbK).1:=by
 intro j k hjk hk
 have hj:j=0∨j=1∨j=2∨j=3∨j=4∨j=5:=by omega
 have hk':k=1∨k=2∨k=3∨k=4∨k=5∨k=6:=by omega
 unfold qd7
 rcases hj with rfl |rfl |rfl |rfl |rfl |rfl<;>rcases hk' with rfl |rfl |rfl |rfl |rfl |rfl<;>first
  |(exfalso;omega)
  |(simp only[List.getD_cons_zero,List.getD_cons_succ];omega)
theorem qQo (i o r n:Int) (hn:0≤n∧n≤262144) (hi:0≤i∧i≤65536) (ho:0≤o∧o≤65536) (hr:4≤r∧r≤65536):∀q∈qd7 (i,o,r,()) n,0≤q.1∧q.1<4294967296∧0≤q.2.1∧q.2.1<4294967296:=by
 intro q hq
 simp only[qd7,List.mem_cons,List.not_mem_nil,or_false] at hq
 rcases hq with rfl |rfl |rfl |rfl |rfl |rfl |rfl<;>(dsimp only;omega)
theorem qJv {s:qb0.den} (h:StFit s):∀j k,j<k→k<7→((rgX s).getD j qbK).1+((rgX s).getD j qbK).2.1≤((rgX s).getD k qbK).1 :=
 qQv s.1.1 s.1.2.1 s.1.2.2.1 (qh s.2.1) ⟨by simp only[qh];omega,by have:=h.flash;simp only[qh];omega⟩ h.inn h.out h.rail
theorem qMw {s:qb0.den} (h:StFit s):∀q∈rgX s,0≤q.1∧q.1<4294967296∧0≤q.2.1∧q.2.1<4294967296 :=
 qQo s.1.1 s.1.2.1 s.1.2.2.1 (qh s.2.1) ⟨by simp only[qh];omega,by have:=h.flash;simp only[qh];omega⟩ h.inn h.out h.rail
theorem qPp {s:qb0.den} (h:StFit s) {j:Nat} (hj:j<7):0≤((rgX s).getD j qbK).1∧((rgX s).getD j qbK).1<4294967296∧0≤((rgX s).getD j qbK).2.1∧((rgX s).getD j qbK).2.1<4294967296:=by
 have hj':j<(rgX s).length:=hj
 rw[qgY (rgX s) qbK hj']
 exact qMw h _ (List.getElem_mem hj')
structure MLink (s:qb0.den) (l:List qbx.den) (y:qer):Prop where
 regs:y.1.1=rgX s
 wins:y.1.2.1=qbp 0 (rgX s)
 byt:∀j off,j<7→off<((rgX s).getD j qbK).2.1.toNat→y.2.getD (((qbp 0 (rgX s)).getD j (0,0)).1+off) 0=qdu s l (((rgX s).getD j qbK).1+(off:Int))
theorem qyy (s:qb0.den) (a:Int) (l m:List qbx.den):∀n,n≤l.length→qnx s a (l++m) n=qnx s a l n
 |0,_=>rfl
 |n+1,h=>by
  rw[qnx,qnx]
  have:(l++m).getD n (Ty.dflt qbx)=l.getD n (Ty.dflt qbx):=by
   rw[List.getD_eq_getElem?_getD,List.getD_eq_getElem?_getD,List.getElem?_append_left (by omega)]
  rw[this,qyy s a l m n (by omega)]
theorem qJ9 (s:qb0.den) (a:Int) (l:List qbx.den) (x:qbx.den):qdu s (l++[x]) a=bif qv0 s a x then List.getD (qhY x.2.2.2.1) (a-x.2.1).toNat 0 else qdu s l a:=by
 unfold qdu
 have hx:(l++[x]).getD l.length (Ty.dflt qbx)=x:=by
  rw[List.getD_eq_getElem?_getD,List.getElem?_append_right (Nat.le_refl _),Nat.sub_self]
  rfl
 rw[List.length_append,List.length_singleton,qnx,hx,qyy s a l [x] l.length (Nat.le_refl _)]
 cases qv0 s a x<;>rfl
theorem qCS {s:qb0.den} {l:List qbx.den} {y:qer} (hy:MemWf y) (h:MLink s l y) (a n:Int):qmA y a n=qzG s l a n:=by
 unfold qmA qzG
 rw[h.regs]
 rcases qm7 (rgX s) a n false with⟨e,he,h2⟩ |⟨j,hj,hn,_,h2⟩
 ·rw[h2]
  have:(e != (0:Int))=true:=by simpa using he
  show(bif e != (0:Int) then((0:Int),e,()) else _)=(bif e != (0:Int) then((0:Int),e,()) else _)
  rw[this]
  rfl
 ·rw[h2]
  show(leV ((y.2.drop (posM y ((j:Int)).toNat a)).take n.toNat),(0:Int),())=(leV (qjX s l a n.toNat),0,())
  rw[Int.toNat_natCast]
  have hj':qiK a n false y.1.1=some j:=by rw[h.regs];exact hj
  obtain⟨q1,q2,q3,q4,q5,_,_⟩:=qxo hy hj' hn
  have q1':j<7:=by rw[h.regs] at q1;exact q1
  obtain⟨w1,w2⟩:=hy.wins j q1
  rw[h.regs] at q3 q4 w1
  have hpos:posM y j a=((qbp 0 (rgX s)).getD j (0,0)).1+(a-((rgX s).getD j qbK).1).toNat:=by
   unfold posM
   rw[h.wins,h.regs]
  congr 2
  apply List.ext_getElem?
  intro i
  unfold qjX
  rw[List.getElem?_take,List.getElem?_map]
  by_cases hi:i<n.toNat
  ·rw[if_pos hi,List.getElem?_drop,List.getElem?_range hi]
   have hb:=h.byt j ((a-((rgX s).getD j qbK).1).toNat+i) q1' (by omega)
   have hlt:posM y j a+i<y.2.length:=by omega
   rw[List.getElem?_eq_getElem hlt]
   rw[←Nat.add_assoc,←hpos,List.getD_eq_getElem?_getD,List.getElem?_eq_getElem hlt] at hb
   have hb:y.2[posM y j a+i]=_:=hb
   rw[hb]
   show some _=some _
   congr 2
   omega
  ·rw[if_neg hi,List.getElem?_eq_none (l:=List.range n.toNat) (by rw[List.length_range];omega)]
   rfl
theorem qw9 (xs:List Int) (p:Nat) (ys:List Int) (n i:Nat) (hn:n≤ys.length) (h:p+n≤xs.length) :
  (qe8 xs p ys n).getD i 0=if i<p then xs.getD i 0 else if i<p+n then ys.getD (i-p) 0 else xs.getD i 0:=by
 have hm:min ys.length n=n:=Nat.min_eq_right hn
 rw[List.getD_eq_getElem?_getD,qQU xs p ys n i (by rw[hm];exact h),hm]
 split
 ·rw[List.getD_eq_getElem?_getD]
 ·split<;>rw[List.getD_eq_getElem?_getD]
theorem qLi {s:qb0.den} {l:List qbx.den} {y:qer} (hf:StFit s) (hy:MemWf y) (h:MLink s l y) (a n v:Int) :
  (qfA y a n v).1=(qfI (rgX s) a n true).2.1 ∧
   (((qfI (rgX s) a n true).2.1≠(0:Int)∧(qfA y a n v).2=y)∨((qfI (rgX s) a n true).2.1=(0:Int)∧MLink s (l++[(1,a,n,v,())]) (qfA y a n v).2)):=by
 unfold qfA
 rw[h.regs]
 rcases qm7 (rgX s) a n true with⟨e,he,h2⟩ |⟨j,hj,hn,_,h2⟩
 ·rw[h2]
  have:(e != (0:Int))=true:=by simpa using he
  show(bif e != (0:Int) then(e,y) else _).1=e∧((e≠0∧(bif e != (0:Int) then(e,y) else _).2=y)∨_)
  rw[this]
  exact⟨rfl,.inl ⟨he,rfl⟩⟩
 ·have h20:(qfI (rgX s) a n true).2.1=(0:Int):=by rw[h2]
  rw[h2]
  refine⟨rfl,.inr ⟨rfl,?_⟩⟩
  show MLink s (l++[(1,a,n,v,())]) (y.1,qe8 y.2 (posM y ((j:Int)).toNat a) (qhY v) n.toNat)
  rw[Int.toNat_natCast]
  have hj':qiK a n true y.1.1=some j:=by rw[h.regs];exact hj
  obtain⟨q1,q2,q3,q4,q5,_,_⟩:=qxo hy hj' hn
  have q1':j<7:=by rw[h.regs] at q1;exact q1
  obtain⟨w1,w2⟩:=hy.wins j q1
  rw[h.regs] at q3 q4 w1
  have hpos:posM y j a=((qbp 0 (rgX s)).getD j (0,0)).1+(a-((rgX s).getD j qbK).1).toNat:=by
   unfold posM
   rw[h.wins,h.regs]
  refine⟨h.regs,h.wins,?_⟩
  intro k off hk hoff
  have hb:=h.byt k off hk hoff
  have hlen4:n.toNat≤(qhY v).length:=by
   rw[qLV]
   rcases hn with rfl |rfl
   ·exact(by decide:(1:Nat)≤4)
   ·exact(by decide:(4:Nat)≤4)
  show(qe8 y.2 (posM y j a) (qhY v) n.toNat).getD _ 0=_
  rw[qw9 _ _ _ _ _ hlen4 q5,qJ9,hb,hpos]
  have hcov:qv0 s (((rgX s).getD k qbK).1+(off:Int)) (1,a,n,v,())=decide (a≤((rgX s).getD k qbK).1+(off:Int)∧((rgX s).getD k qbK).1+(off:Int)-a<n):=by
   unfold qv0
   simp only[h20]
   rw[Bool.decide_and]
   simp
  rw[hcov]
  have hkl:(((qbp 0 (rgX s)).getD k (0,0)).2:Int)=((rgX s).getD k qbK).2.1:=by
   have:=(hy.wins k (by rw[h.regs];exact hk)).1
   rw[h.wins,h.regs] at this
   exact this
  obtain⟨r1,r2,r3,r4⟩:=qPp hf q1'
  obtain⟨t1,t2,t3,t4⟩:=qPp hf hk
  have hjl:a-((rgX s).getD j qbK).1+n≤((rgX s).getD j qbK).2.1:=by
   rw[h.wins] at q4 w1
   omega
  rcases Nat.lt_trichotomy j k with hjk |hjk |hjk
  ·have e1:=qsL (rgX s) 0 j k hjk hk
   have e2:=qJv hf j k hjk hk
   generalize ((qbp 0 (rgX s)).getD k (0,0)).1=wk at *
   generalize ((qbp 0 (rgX s)).getD j (0,0)).1=wj at *
   generalize (rgX s).getD k qbK=rk at *
   generalize (rgX s).getD j qbK=rj at *
   rw[if_neg (by omega),if_neg (by omega),decide_eq_false (by omega)]
   rfl
  ·subst hjk
   generalize ((qbp 0 (rgX s)).getD j (0,0)).1=wj at *
   generalize (rgX s).getD j qbK=rj at *
   by_cases c1:off<(a-rj.1).toNat
   ·rw[if_pos (by omega),decide_eq_false (by omega)]
    rfl
   ·by_cases c2:off<(a-rj.1).toNat+n.toNat
    ·rw[if_neg (by omega),if_pos (by omega),decide_eq_true (by omega)]
     show(qhY v).getD _ 0=List.getD (qhY v) (rj.1+(off:Int)-a).toNat 0
     congr 1
     omega
    ·rw[if_neg (by omega),if_neg (by omega),decide_eq_false (by omega)]
     rfl
  ·have e1:=qsL (rgX s) 0 k j hjk q1'
   have e2:=qJv hf k j hjk q1'
   generalize ((qbp 0 (rgX s)).getD k (0,0)).1=wk at *
   generalize ((qbp 0 (rgX s)).getD j (0,0)).1=wj at *
   generalize (rgX s).getD k qbK=rk at *
   generalize (rgX s).getD j qbK=rj at *
   rw[if_pos (by omega),decide_eq_false (by omega)]
   rfl
theorem qJS {s:qb0.den} {l:List qbx.den} {y:qer} (hy:MemWf y) (h:MLink s l y) (k:Nat) (hk:k<7):(qky (k:Int) y).1=qva s l (k:Int):=by
 unfold qky qq6 qva
 have hlen:y.1.2.1.length=7:=by rw[←hy.len,h.regs];rfl
 have hb:(decide ((k:Int)<0)||decide ((k:Int)≥qh y.1.2.1))=false:=by
  simp only[qh,hlen,Bool.or_eq_false_iff,decide_eq_false_iff_not]
  omega
 rw[hb,Int.toNat_natCast]
 show bytesOf (shown y.2 (wAt y.1.2.1 (k:Int)))=_
 unfold bytesOf
 congr 1
 unfold shown wAt qjX
 rw[Int.toNat_natCast]
 obtain⟨w1,w2⟩:=hy.wins k (by rw[h.regs];exact hk)
 have hw1:=w1
 rw[h.regs] at hw1
 apply List.ext_getElem?
 intro i
 rw[List.getElem?_take,List.getElem?_map]
 by_cases hi:i<((rgX s).getD k qbK).2.1.toNat
 ·rw[if_pos (by omega),List.getElem?_drop,List.getElem?_range hi]
  have hbt:=h.byt k i hk hi
  rw[←h.wins] at hbt
  have hlt:(y.1.2.1.getD k (0,0)).1+i<y.2.length:=by omega
  rw[List.getD_eq_getElem?_getD (l:=y.2),List.getElem?_eq_getElem hlt] at hbt
  rw[List.getElem?_eq_getElem hlt]
  exact congrArg some hbt
 ·rw[if_neg (by omega),List.getElem?_eq_none (l:=List.range ((rgX s).getD k qbK).2.1.toNat) (by rw[List.length_range];omega)]
  rfl
theorem quH (l:List UInt8):(qej l).length=l.length:=List.length_map ..
theorem qNu {s:qb0.den} (hf:StFit s):MLink s [] (qIu (rgX s) s.2.1 s.2.2.1):=by
 refine⟨rfl,rfl,?_⟩
 intro k off hk hoff
 have w0:wAt (qbp 0 (rgX s)) 0=(0,List.length s.2.1):=rfl
 have w1:wAt (qbp 0 (rgX s)) 1=(0+List.length s.2.1,List.length s.2.2.1):=by
  have e:(show Int from s.1.1).toNat=List.length s.2.2.1:=by have:=hf.input;omega
  show(0+List.length s.2.1,(show Int from s.1.1).toNat)=_
  rw[e]
 have hz:(zeros ((qdU (rgX s):Nat):Int) (0:Int)).length=qdU (rgX s):=by simp[zeros]
 have g1:=(qsS (rgX s) 0 1 (show 1<(rgX s).length by rw[qRx];decide)).2
 have g1':List.length s.2.1+List.length s.2.2.1≤qdU (rgX s):=by
  have e:((qbp 0 (rgX s)).getD 1 (0,0))=(0+List.length s.2.1,List.length s.2.2.1):=w1
  rw[e] at g1
  simp only at g1
  omega
 show(qe8 (qe8 (zeros ((qdU (rgX s):Nat):Int) 0) (wAt (qbp 0 (rgX s)) 0).1 (qej s.2.1) (wAt (qbp 0 (rgX s)) 0).2) (wAt (qbp 0 (rgX s)) 1).1 (qej s.2.2.1) (wAt (qbp 0 (rgX s)) 1).2).getD _ 0=qAf s (((rgX s).getD k qbK).1+(off:Int))
 rw[w0,w1]
 have hin:(qe8 (zeros ((qdU (rgX s):Nat):Int) (0:Int)) 0 (qej s.2.1) (List.length s.2.1)).length=qdU (rgX s):=by
  rw[qyE _ _ _ _ (by rw[quH,Nat.min_self,hz];omega),hz]
 rw[qw9 _ _ _ _ _ (by rw[quH];exact Nat.le_refl _) (by rw[hin];omega),qw9 _ _ _ _ _ (by rw[quH];exact Nat.le_refl _) (by rw[hz];omega)]
 have hfl:=hf.flash
 have hinp:(List.length s.2.2.1:Int)≤65536:=by rw[hf.input];exact hf.inn.2
 unfold qAf
 rcases Nat.lt_trichotomy k 1 with h0 |h0 |h0
 ·have hk0:k=0:=by omega
  subst hk0
  have ho:off<List.length s.2.1:=hoff
  have e1:((qbp 0 (rgX s)).getD 0 (0,0)).1=0:=rfl
  have e2:((rgX s).getD 0 qbK).1=0:=rfl
  rw[e1,e2,if_pos (by omega),if_neg (by omega),if_pos (by omega),qK (show(0:Int)+(off:Int)<qh s.2.1 by simp only[qh];omega),cond_true,qqH]
  congr 1
 ·subst h0
  have ho:off<List.length s.2.2.1:=by
   have:((rgX s).getD 1 qbK).2.1.toNat=List.length s.2.2.1:=by
    show(show Int from s.1.1).toNat=_
    have:=hf.input
    omega
   omega
  have e1:((qbp 0 (rgX s)).getD 1 (0,0)).1=0+List.length s.2.1:=rfl
  have e2:((rgX s).getD 1 qbK).1=536936448:=rfl
  rw[e1,e2,if_neg (by omega),if_pos (by omega),qW (show ¬(536936448:Int)+(off:Int)<qh s.2.1 by simp only[qh];omega),cond_false,qK (show(536936448:Int)+(off:Int)≥536936448 by omega),qK (show(536936448:Int)+(off:Int)<536936448+qh s.2.2.1 by simp only[qh];omega),Bool.and_true,cond_true,qqH]
  congr 1
  omega
 ·have e1:=qsL (rgX s) 0 1 k h0 hk
  have e2:=qJv hf 1 k h0 hk
  have e3:((qbp 0 (rgX s)).getD 1 (0,0)).1=0+List.length s.2.1:=rfl
  have e4:((rgX s).getD 1 qbK).2.1.toNat=List.length s.2.2.1:=by
   show(show Int from s.1.1).toNat=_
   have:=hf.input
   omega
  have e5:((rgX s).getD 1 qbK).1=536936448:=rfl
  have e6:((rgX s).getD 1 qbK).2.1=(List.length s.2.2.1:Int):=hf.input.symm
  rw[e3,e4] at e1
  rw[e5,e6] at e2
  generalize ((qbp 0 (rgX s)).getD k (0,0)).1=wk at *
  generalize ((rgX s).getD k qbK).1=bk at *
  have hz0:(zeros ((qdU (rgX s):Nat):Int) (0:Int)).getD (wk+off) 0=0:=by
   unfold zeros
   rw[List.getD_eq_getElem?_getD,List.getElem?_replicate]
   split<;>rfl
  rw[if_neg (by omega),if_neg (by omega),if_neg (by omega),if_neg (by omega),hz0,qW (show ¬bk+(off:Int)<qh s.2.1 by simp only[qh];omega),cond_false,qW (show ¬bk+(off:Int)<536936448+qh s.2.2.1 by simp only[qh];omega),Bool.and_false,cond_false]
end Go.Av
end
section
namespace Go.Av
open Go
abbrev qoA:Type:=Sh.den (quD 0)
abbrev qNS:Type:=Sh.den qde×ql qdw
abbrev qA9 (m:qoA) (st:qG.den) (dn:Bool) (l:List qbx.den) (v:qhU.den):qNS:=(((m.1,m.2.1,st,dn,l,()),v,()),())
structure RLink (m:qoA) (st:qG.den) (dn:Bool) (y:qer):Prop where
 state:m.2.2.1=st
 done:m.2.2.2.1=dn
 mem:MLink m.2.1 m.2.2.2.2.1 y
 past:qir m.2.2.2.2.1
 wf:MemWf y
theorem qJU (st:qG.den) (i:qbd.den) (h:(qf (st,i)).2.1=false):(qf (st,i)).1.1=(0:Int):=by
 have key:∀bad op a d,(qf1 bad op a d).2.1=false→(qf1 bad op a d).1.1=(0:Int):=by
  intro bad op a d
  unfold qf1
  cases bad<;>cases (op==(19:Int))<;>cases (op==(20:Int))<;>cases (op==(21:Int))<;>cases (op==(22:Int))<;>first|(intro _;rfl) |(intro h;cases h)
 exact key _ _ _ _ h
theorem qLU (st:qG.den) (i:qbd.den):0≤(show Int from(qf (st,i)).1.1)∧(show Int from(qf (st,i)).1.1)<4294967296:=by
 rcases qwZ (qk i != 0) i.1 (rg st.1 i.2.2.1) (rg st.1 i.2.1) with h |h
 ·have h:(show Int from(qf (st,i)).1.1)=0:=h
  omega
 ·have h:(show Int from(qf (st,i)).1.1)=(wn (rg st.1 i.2.2.1):Int):=h
  have:=qdB (rg st.1 i.2.2.1)
  omega
theorem qJ7 {l:List qbx.den} (h:qir l) (hl:l.length<4611686018427387903) {a n v:Int} (ha:0≤a∧a<4611686018427387904):qir (l++[(1,a,n,v,())]):=by
 refine⟨by rw[List.length_append];show l.length+1<_;omega,fun x hx=>?_⟩
 rcases List.mem_append.1 hx with hx |hx
 ·exact h.2 x hx
 ·rcases List.mem_cons.1 hx with rfl |hx
  ·exact ha
  ·cases hx
theorem qNy (m:qoA) (h:qG.den) (i:qbd.den) (y:qer) (hf:StFit m.2.1) (hr:List.length h.1=15) (hdn:m.2.2.2.1=false) (hl:MLink m.2.1 m.2.2.2.2.1 y) (hp:qir m.2.2.2.2.1) (hw:MemWf y) (hroom:List.length m.2.2.2.2.1<4000000000) :
  ∃l',(qxZ m h i).val=some (qA9 m (qoS m.1 h i y).2.1 (qoS m.1 h i y).2.2.1 l' (qoS m.1 h i y).1)∧MLink m.2.1 l' (qoS m.1 h i y).2.2.2∧qir l'∧List.length l'≤List.length m.2.2.2.2.1+1:=by
 obtain⟨a0,a1⟩:=qLU h i
 have gS:∀ld,qdF (h,i,ld)=true:=fun ld=>decide_eq_true hr
 obtain⟨hd,s,st0,dn,l,⟨⟩⟩:=m
 simp only at hf hdn hl hp hroom
 subst hdn
 have hA:qi (h,i)=qf (h,i):=rfl
 unfold qxZ qoS
 simp only[hA]
 generalize hacc:qf (h,i)=A at *
 have hz:A.2.1=false→A.1.1=(0:Int):=fun hh=>by
  have:=qJU h i
  rw[hacc] at this
  exact this hh
 have b1:(show Int from A.1.1)<9223372036854775808:=by omega
 have b2:(show Int from A.1.1)<4611686018427387904:=by omega
 have b3:(show Int from A.1.1)<2305843009213693952:=by omega
 obtain⟨⟨a,n,v,wr,u1⟩,is,u2⟩:=A
 cases is with
 |false =>
  have hz:a=0:=hz rfl
  refine⟨l,?_,hl,hp,Nat.le_succ _⟩
  refine(qv rfl).trans ((qv rfl).trans ((qe (gS 0)).trans ?_))
  subst hz
  rfl
 |true =>
  cases wr with
  |true =>
   obtain⟨s1,s2⟩:=qLi hf hw hl a n v
   have gf:qdg (s,a,n,true)=true:=decide_eq_true ⟨hf.ok,b1⟩
   rcases s2 with⟨e1,e2⟩ |⟨e1,e2⟩
   ·have hb:((qfI (rgX s) a n true).2.1 != (0:Int))=true:=by simpa using e1
    refine⟨l,(qe rfl).trans ((qe gf).trans ((qe (b:=qcN (s,a,n,true) != 0) hb).trans ?_)),?_,hp,Nat.le_succ _⟩
    ·rw[show((qfA y a n v).1 != (0:Int))=true by rw[s1];exact hb]
     rfl
    ·rw[show((qfA y a n v).1 != (0:Int))=true by rw[s1];exact hb]
     show MLink s l (qfA y a n v).2
     rw[e2]
     exact hl
   ·have hb:((qfI (rgX s) a n true).2.1 != (0:Int))=false:=by simpa using e1
    have hlen:Nat.ble ((List.length l+1)*32) 140737488355328=true:=Nat.ble_eq_true_of_le (by omega)
    refine⟨l++[(1,a,n,v,())],(qe rfl).trans ((qe gf).trans ((qv (b:=qcN (s,a,n,true) != 0) hb).trans ((qe hlen).trans ((qv rfl).trans ((qe (gS 0)).trans ?_))))),?_,qJ7 hp (by omega) ⟨a0,b2⟩,by rw[List.length_append];exact Nat.le_refl _⟩
    ·rw[show((qfA y a n v).1 != (0:Int))=false by rw[s1];exact hb]
     rfl
    ·rw[show((qfA y a n v).1 != (0:Int))=false by rw[s1];exact hb]
     exact e2
  |false =>
   have ll:=qCS hw hl a n
   have gl:qdf (s,l,a,n)=true:=decide_eq_true ⟨hf.ok,hp,a0,b3⟩
   have hV:qbs (s,l,a,n)=qmA y a n:=by rw[ll];rfl
   refine⟨l,?_,?_,hp,Nat.le_succ _⟩
   ·refine(qv rfl).trans ((qe rfl).trans ((qe gl).trans ?_))
    simp only[hV]
    cases hb:((qmA y a n).2.1 != (0:Int)) with
    |true=>exact(qe rfl).trans rfl
    |false=>exact(qv rfl).trans ((qe (gS _)).trans rfl)
   ·simp only[cond_true,cond_false]
    cases hb:((qmA y a n).2.1 != (0:Int)) with
    |true=>exact hl
    |false=>exact hl
theorem qQD (fl:List UInt8) (p q:Nat) (hq:q=p+4∨(q=fl.length∧fl.length≤p+4)):qjv (List.drop p (List.take q fl))=qjv (fl.drop p):=by
 rw[List.drop_take]
 rcases hq with rfl |⟨rfl,h⟩
 ·rw[show p+4-p=4 by omega]
  exact qOu _
 ·rw[List.take_of_length_le (by rw[List.length_drop];exact Nat.le_refl _)]
theorem qQx (n:Int):(Int.tmod n 2 != 0)=(qbC .i64 n 1 != 0):=by
 have h:qbC .i64 n 1=n % 2:=qjW n 1 (by omega)
 rw[h,Bool.eq_iff_iff]
 simp only[bne_iff_ne,ne_eq]
 rw[Int.tmod_eq_emod]
 split<;>omega
theorem qxf (m:qoA) (h:qG.den) (k:qbd.den×Int×Int×Unit→PO qNS) (pc:Int) (he:h.2.1=pc) (hpc:0≤pc∧pc<4294967296) :
  (qAJ m h k).val=match qoW m.2.1.2.1 pc with
   |none=>some (qA9 m (h.1,m.1.2.1,h.2.2) m.2.2.2.1 m.2.2.2.2.1 (2,pc,0,12,()))
   |some p=>(k (p.1,p.2,0,())).val:=by
 unfold qAJ qoW
 simp only[he]
 generalize hF:m.2.1.2.1=fl at *
 rw[qQx]
 cases c1:(qbC .i64 pc 1 != 0||decide (pc≥qh fl)) with
 |true=>exact(qe rfl).trans rfl
 |false =>
  refine(qv rfl).trans ?_
  simp only[Bool.or_eq_false_iff,decide_eq_false_iff_not] at c1
  have c2:¬pc≥((fl.length:Nat):Int):=c1.2
  have hw:w64 (pc+4)=pc+4:=qt (by omega) (by omega)
  have hq:∃q:Nat,qoT (w64 (pc+4)) (qh fl)=(q:Int)∧pc≤(q:Int)∧(q:Int)≤qh fl∧(q=pc.toNat+4∨(q=fl.length∧fl.length≤pc.toNat+4)):=by
   rw[hw]
   unfold qoT
   cases d:decide (qh fl<pc+4) with
   |true =>
    have d':((fl.length:Nat):Int)<pc+4:=of_decide_eq_true d
    exact⟨fl.length,rfl,by omega,Int.le_refl _,.inr ⟨rfl,by omega⟩⟩
   |false =>
    have d':¬((fl.length:Nat):Int)<pc+4:=of_decide_eq_false d
    exact⟨pc.toNat+4,by show pc+4=_;omega,by omega,by simp only[qh];omega,.inl rfl⟩
  obtain⟨q,q1,q2,q3,q4⟩:=hq
  rw[q1,Int.toNat_natCast,qTm,qTu,qQD fl pc.toNat q q4]
  refine(qe ?_).trans ((qe rfl).trans ?_)
  ·simp only[Bool.and_eq_true,decide_eq_true_eq]
   exact⟨⟨⟨by omega,q3⟩,hpc.1⟩,q2⟩
  simp only[cond_false]
  cases c3:((qjv (fl.drop pc.toNat)).2.2.1 != (0:Int)) with
  |true=>exact(qe rfl).trans rfl
  |false =>
   refine(qv rfl).trans ?_
   have c4:(qjv (fl.drop pc.toNat)).2.2.1=(0:Int):=by simpa using c3
   show(k (qjv (fl.drop pc.toNat))).val=(k ((qjv (fl.drop pc.toNat)).1,(qjv (fl.drop pc.toNat)).2.1,0,())).val
   rw[←c4]
theorem qGP (s:qG.den) (f:qw.den) (hc:qE f=0) (hs:List.length s.1=15):qdX (s,f)=true∧qbw (s,f)=qbW s f:=by
 have h:=qQW s f hc hs
 exact⟨by unfold qdX;rw[h];rfl,by unfold qbw PO.qQ;rw[h];rfl⟩
theorem qMu (m:qoA) (st:qG.den) (y:qer) (f:qw.den) (hL:RLink m st false y) (hf:StFit m.2.1) (hpc:0≤(show Int from st.2.1)∧(show Int from st.2.1)<4294967296) (hr:List.length st.1=15) (hh:0≤(show Int from m.1.2.1)∧(show Int from m.1.2.1)<4294967296) (hroom:List.length m.2.2.2.2.1<4000000000) :
  ∃l',(qeo (m,f) ()).val=some (qA9 m (qcf m.1 m.2.1.2.1 st y f).2.1 (qcf m.1 m.2.1.2.1 st y f).2.2.1 l' (qcf m.1 m.2.1.2.1 st y f).1) ∧
   RLink (m.1,m.2.1,(qcf m.1 m.2.1.2.1 st y f).2.1,(qcf m.1 m.2.1.2.1 st y f).2.2.1,l',()) (qcf m.1 m.2.1.2.1 st y f).2.1 (qcf m.1 m.2.1.2.1 st y f).2.2.1 (qcf m.1 m.2.1.2.1 st y f).2.2.2∧List.length l'≤List.length m.2.2.2.2.1+1:=by
 obtain⟨_,_,hwf,_,_,_⟩:=qp0 m.1 m.2.1.2.1 st y f hL.wf hr hh
 have core:∀g:qw.den,qE g=0→∀sk:Bool,∃l',
   (qAJ m (qbw (m.2.2.1,g)) fun d=>bif sk then qzk m (qbw (m.2.2.1,g)) d else qxZ m (qbw (m.2.2.1,g)) d.1).val =
    some (qA9 m (qta m.1 m.2.1.2.1 (qbW st g) y sk).2.1 (qta m.1 m.2.1.2.1 (qbW st g) y sk).2.2.1 l' (qta m.1 m.2.1.2.1 (qbW st g) y sk).1) ∧
   MLink m.2.1 l' (qta m.1 m.2.1.2.1 (qbW st g) y sk).2.2.2∧qir l'∧List.length l'≤List.length m.2.2.2.2.1+1:=by
  intro g hg sk
  rw[hL.state,(qGP st g hg hr).2]
  have hlen:=qyR st g hr
  have hp:=qyd st g
  rw[qxf m (qbW st g) _ st.2.1 hp hpc]
  unfold qta
  rw[hp]
  cases qoW m.2.1.2.1 st.2.1 with
  |none =>
   refine⟨m.2.2.2.2.1,?_,hL.mem,hL.past,Nat.le_succ _⟩
   rw[hL.done]
   show some _=some (qA9 m ((qbW st g).1,m.1.2.1,(qbW st g).2.2) false m.2.2.2.2.1 (2,(qbW st g).2.1,0,12,()))
   rw[hp]
  |some p =>
   cases sk with
   |true =>
    refine⟨m.2.2.2.2.1,?_,hL.mem,hL.past,Nat.le_succ _⟩
    show(qzk m (qbW st g) (p.1,p.2,0,())).val=some (qA9 m ((qbW st g).1,qjr (st.2.1,p.2),(qbW st g).2.2) false m.2.2.2.2.1 (1,st.2.1,0,1,()))
    unfold qzk
    rw[hp,←hL.done]
    rfl
   |false =>
    obtain⟨l',e1,e2,e3,e4⟩:=qNy m (qbW st g) p.1 y hf hlen hL.done hL.mem hL.past hL.wf hroom
    exact⟨l',e1,e2,e3,e4⟩
 unfold qeo
 have hck:qb4 f=qE f:=quL f
 show ∃l',(PO.ite (qb4 f != 0) _ _).val=_∧_
 rw[hck]
 unfold qcf qtQ at *
 cases hc:(qE f != (0:Int)) with
 |true =>
  rw[hc] at hwf
  obtain⟨l',e1,e2,e3,e4⟩:=core qc2 rfl false
  refine⟨l',?_,⟨rfl,rfl,e2,e3,hwf⟩,e4⟩
  refine(qe rfl).trans ((qe ?_).trans e1)
  rw[hL.state]
  exact(qGP st qc2 rfl hr).1
 |false =>
  rw[hc] at hwf
  have hg:qE f=0:=by simpa using hc
  obtain⟨l',e1,e2,e3,e4⟩:=core f hg (f.1==(1:Int))
  refine⟨l',?_,⟨rfl,rfl,e2,e3,hwf⟩,e4⟩
  refine(qv rfl).trans ((qe ?_).trans ?_)
  ·show qdX (m.2.2.1,f)=true
   rw[hL.state]
   exact(qGP st f hg hr).1
  ·refine Eq.trans ?_ e1
   show(qAJ m (qbw (m.2.2.1,f)) fun d=>PO.ite (f.1==(1:Int)) (qzk m (qbw (m.2.2.1,f)) d) (qxZ m (qbw (m.2.2.1,f)) d.1)).val=_
   have hst:qbw (m.2.2.1,f)=qbW st f:=by rw[hL.state,(qGP st f hg hr).2]
   rw[hst]
   have hp:=qyd st f
   rw[qxf m (qbW st f) _ st.2.1 hp hpc,qxf m (qbW st f) _ st.2.1 hp hpc]
   cases qoW m.2.1.2.1 st.2.1 with
   |none=>rfl
   |some p=>cases f.1==(1:Int)<;>rfl
end Go.Av
end
section
namespace Go.Av
open Go
theorem qRu {m:qoA} {f:qw.den} {o:qNS} (h:(qeo (m,f) ()).val=some o):qeq (m,f) ()=true∧qbJ (m,f) ()=o :=
 ⟨by unfold qeq;rw[h];rfl,by unfold qbJ PO.qQ;rw[h];rfl⟩
theorem qKf (f:qw.den) (budget:Int) (hbud:budget≤67108864) (z:qoA) (x:ql qcX.ss) (hx:x.1=budget) (y0:ql qcX.hs) :
  ∀(n k:Nat) (evs:List qhU.den) (hnd:Int) (m:qoA) (st:qG.den) (dn:Bool) (y:qer),(k:Int)+n=budget→evs.length=k→RLink m st dn y→StFit m.2.1 →
   (0≤(show Int from st.2.1)∧(show Int from st.2.1)<4294967296)→List.length st.1=15→(0≤(show Int from m.1.2.1)∧(show Int from m.1.2.1)<4294967296)→List.length m.2.2.2.2.1≤k→0≤hnd→hnd≤k →
   ∃l',qcF (qcX.turn x y0) (n+1) (evs,hnd,m,f,z) =
     some (0,(evs++(goX m.1 m.2.1.2.1 f n k (st,dn,y)).1,hnd+(goX m.1 m.2.1.2.1 f n k (st,dn,y)).2.1,(m.1,m.2.1,(goX m.1 m.2.1.2.1 f n k (st,dn,y)).2.2.1,(goX m.1 m.2.1.2.1 f n k (st,dn,y)).2.2.2.1,l',()),f,z)) ∧
    RLink (m.1,m.2.1,(goX m.1 m.2.1.2.1 f n k (st,dn,y)).2.2.1,(goX m.1 m.2.1.2.1 f n k (st,dn,y)).2.2.2.1,l',()) (goX m.1 m.2.1.2.1 f n k (st,dn,y)).2.2.1 (goX m.1 m.2.1.2.1 f n k (st,dn,y)).2.2.2.1 (goX m.1 m.2.1.2.1 f n k (st,dn,y)).2.2.2.2:=by
 intro n
 induction n with
 |zero =>
  intro k evs hnd m st dn y hk he hL _ _ _ _ _ _ _
  have hm:m=(m.1,m.2.1,st,dn,m.2.2.2.2.1,()):=by
   obtain⟨a,b,c,d,e,⟨⟩⟩:=m
   have h1:c=st:=hL.state
   have h2:d=dn:=hL.done
   subst h1 h2
   rfl
  refine⟨m.2.2.2.2.1,(qbg ((qv ?_).trans rfl)).trans ?_,by rw[hm] at hL;exact hL⟩
  ·show(decide (qh evs<x.1)&&!m.2.2.2.1)=false
   rw[hx,qW (show ¬qh evs<budget by simp only[qh,he];omega),Bool.false_and]
  ·show some (0,(evs,hnd,m,f,z))=some (0,(evs++[],hnd+0,(m.1,m.2.1,st,dn,m.2.2.2.2.1,()),f,z))
   rw[List.append_nil,Int.add_zero,←hm]
 |succ n ih =>
  intro k evs hnd m st dn y hk he hL hf hpc hr hh hp hn0 hn1
  have hm:m=(m.1,m.2.1,st,dn,m.2.2.2.2.1,()):=by
   obtain⟨a,b,c,d,e,⟨⟩⟩:=m
   have h1:c=st:=hL.state
   have h2:d=dn:=hL.done
   subst h1 h2
   rfl
  cases dn with
  |true =>
   refine⟨m.2.2.2.2.1,(qbg ((qv ?_).trans rfl)).trans ?_,?_⟩
   ·show(decide (qh evs<x.1)&&!m.2.2.2.1)=false
    rw[hL.done,Bool.not_true,Bool.and_false]
   ·rw[qKZ _ _ _ (show((st,true,y):qtx).2.1=true from rfl)]
    show some (0,(evs,hnd,m,f,z))=some (0,(evs++[],hnd+0,(m.1,m.2.1,st,true,m.2.2.2.2.1,()),f,z))
    rw[List.append_nil,Int.add_zero,←hm]
   ·rw[qKZ _ _ _ (show((st,true,y):qtx).2.1=true from rfl)]
    rw[hm] at hL
    exact hL
  |false =>
   have hc0:(decide (qh evs<x.1)&&!m.2.2.2.1)=true:=by
    rw[hx,hL.done,qK (show qh evs<budget by simp only[qh,he];omega)]
    rfl
   obtain⟨l',e1,e2,e3⟩:=qMu m st y (qik f k) hL hf hpc hr hh (by omega)
   obtain⟨g1,g2⟩:=qRu e1
   obtain⟨s1,s2,s3,s4,s5,s6⟩:=qp0 m.1 m.2.1.2.1 st y (qik f k) hL.wf hr hh
   have hgo:goX m.1 m.2.1.2.1 f (n+1) k (st,false,y)=((qcf m.1 m.2.1.2.1 st y (qik f k)).1::(goX m.1 m.2.1.2.1 f n (k+1) (qcf m.1 m.2.1.2.1 st y (qik f k)).2).1,
     (bif st.2.1==m.1.2.1 then 1 else 0)+(goX m.1 m.2.1.2.1 f n (k+1) (qcf m.1 m.2.1.2.1 st y (qik f k)).2).2.1,
     (goX m.1 m.2.1.2.1 f n (k+1) (qcf m.1 m.2.1.2.1 st y (qik f k)).2).2.2):=by
    rw[goX]
    rfl
   rw[hgo]
   have hnow:qik f k=(bif f.2.1==(k:Int) then f else qc2):=rfl
   generalize hE:qcf m.1 m.2.1.2.1 st y (qik f k)=E at *
   have hb:∀b:Bool,(bif b then w64 (hnd+1) else hnd)=hnd+(bif b then(1:Int) else 0):=fun b=>by
    cases b
    ·show hnd=hnd+0
     omega
    ·show w64 (hnd+1)=hnd+1
     exact qt (by omega) (by omega)
   have hbb:0≤(bif st.2.1==m.1.2.1 then(1:Int) else 0)∧(bif st.2.1==m.1.2.1 then(1:Int) else 0)≤1:=by cases (st.2.1==m.1.2.1)<;>decide
   obtain⟨l2,i1,i2⟩:=ih (k+1) (evs++[E.1]) (hnd+(bif st.2.1==m.1.2.1 then 1 else 0)) (m.1,m.2.1,E.2.1,E.2.2.1,l',()) E.2.1 E.2.2.1 E.2.2.2 (by omega) (by rw[List.length_append,he];rfl) e2 hf s2 s1 hh (by show List.length l'≤k+1;omega) (by omega) (by omega)
   refine⟨l2,?_,i2⟩
   have hroom:Nat.ble ((List.length evs+1)*32) 140737488355328=true:=Nat.ble_eq_true_of_le (by omega)
   have fin:qcF (qcX.turn x y0) (n+1) (evs++[E.1],hnd+(bif st.2.1==m.1.2.1 then 1 else 0),(m.1,m.2.1,E.2.1,E.2.2.1,l',()),f,z)=some (0,(evs++(E.1::(goX m.1 m.2.1.2.1 f n (k+1) E.2).1),hnd+((bif st.2.1==m.1.2.1 then 1 else 0)+(goX m.1 m.2.1.2.1 f n (k+1) E.2).2.1),(m.1,m.2.1,(goX m.1 m.2.1.2.1 f n (k+1) E.2).2.2.1,(goX m.1 m.2.1.2.1 f n (k+1) E.2).2.2.2.1,l2,()),f,z)):=by
    refine i1.trans ?_
    rw[List.append_assoc,Int.add_assoc]
    rfl
   have hlen:qh evs=(k:Int):=by simp only[qh,he]
   have hT:(qcX.turn x y0 (evs,hnd,m,f,z)).val=some (TL.on (evs++[E.1],hnd+(bif st.2.1==m.1.2.1 then 1 else 0),(m.1,m.2.1,E.2.1,E.2.2.1,l',()),f,z)):=by
    refine(qe hc0).trans ?_
    show(PO.ite (f.2.1==qh evs) _ _).val=_
    rw[hlen]
    cases hb2:(f.2.1==(k:Int)) with
    |true =>
     rw[hb2] at hnow
     simp only[cond_true] at hnow
     rw[hnow] at g1 g2
     refine(qe rfl).trans ((qe g1).trans ((qe hroom).trans ?_))
     show some (TL.on (evs++[(qbJ (m,f) ()).1.2.1],(bif m.2.2.1.2.1==m.1.2.1 then w64 (hnd+1) else hnd),(qbJ (m,f) ()).1.1,f,z))=_
     rw[g2,hL.state,hb]
    |false =>
     rw[hb2] at hnow
     simp only[cond_false] at hnow
     rw[hnow] at g1 g2
     refine(qv rfl).trans ((qe g1).trans ((qe hroom).trans ?_))
     show some (TL.on (evs++[(qbJ (m,qc2) ()).1.2.1],(bif m.2.2.1.2.1==m.1.2.1 then w64 (hnd+1) else hnd),(qbJ (m,qc2) ()).1.1,f,z))=_
     rw[g2,hL.state,hb]
   exact(qcx hT).trans fin
theorem qMf (hd:qcL.den) (fl:List UInt8) (f:qw.den) (hh:0≤(show Int from hd.2.1)∧(show Int from hd.2.1)<4294967296):∀(n:Nat) (k:Int) (s:qtx),MemWf s.2.2→List.length s.1.1=15→∀e∈(goX hd fl f n k s).1,0≤(show Int from e.2.2.2.1)∧(show Int from e.2.2.2.1)≤12
 |0,_,_,_,_,e,he=>by cases he
 |n+1,k,s,hm,hr,e,he=>by
  rw[goX] at he
  cases hs:s.2.1 with
  |true=>rw[hs] at he;cases he
  |false =>
   rw[hs] at he
   obtain⟨h1,h2,h3,h4,h5,h6⟩:=qp0 hd fl s.1 s.2.2 (qik f k) hm hr hh
   rcases List.mem_cons.1 he with rfl |he
   ·exact⟨h5,h6⟩
   ·exact qMf hd fl f hh n (k+1) (qcf hd fl s.1 s.2.2 (qik f k)).2 h3 h1 e he
theorem qzo (evs:List qhU.den) (hev:∀e∈evs,0≤(show Int from e.2.2.2.1)∧(show Int from e.2.2.2.1)≤12) (hl:evs.length≤67108864) (m:qtm.den) (r0:qcg.den) (d:Bool) (L h:Int) (rest:Int×Int×List UInt8×List UInt8×List UInt8×Unit) (x:ql qdk.ss) (hx:x.1=evs) (y:ql qdk.hs) :
  ∀(n k:Nat) (c:Int),k+n=evs.length→0≤c→c≤12*(k:Int)→qcF (qdk.turn x y) (n+1) ((k:Int),m,r0,(d,L,c,h,rest))=some (0,(((evs.length:Nat):Int),m,r0,(d,L,c+qrf (evs.drop k),h,rest)))
 |0,k,c,hk,_,_=>by
  refine(qbg (c:=0) ((qv ?_).trans rfl)).trans ?_
  ·show decide ((k:Int)<qh x.1)=false
   rw[hx]
   exact qW (by simp only[qh];omega)
  ·rw[List.drop_of_length_le (by omega),show(k:Int)=((evs.length:Nat):Int) by omega]
   show some (0,(((evs.length:Nat):Int),m,r0,(d,L,c,h,rest)))=some (0,(((evs.length:Nat):Int),m,r0,(d,L,c+0,h,rest)))
   rw[Int.add_zero]
 |n+1,k,c,hk,h0,h1=>by
  have hi:k<evs.length:=by omega
  have hg:List.getD evs (Int.toNat (k:Int)) (Ty.dflt qhU)=evs[k]:=by rw[Int.toNat_natCast];exact qgY evs _ hi
  obtain⟨e0,e1⟩:=hev _ (List.getElem_mem hi)
  have hd:evs.drop k=evs[k]::evs.drop (k+1):=List.drop_eq_getElem_cons hi
  rw[hd]
  generalize hE:evs[k]=E at *
  have b0:(0:Int)≤E.2.2.2.1:=e0
  have b1:(12:Int)≥E.2.2.2.1:=e1
  have hw:w64 (c+E.2.2.2.1)=c+E.2.2.2.1:=qt (by omega) (by omega)
  have hT:(qdk.turn x y ((k:Int),m,r0,(d,L,c,h,rest))).val=some (TL.on (((k+1:Nat):Int),m,r0,(d,L,c+E.2.2.2.1,h,rest))):=by
   refine(qe ?_).trans ((qe ?_).trans ?_)
   ·show decide ((k:Int)<qh x.1)=true
    rw[hx]
    exact qK (by simp only[qh];omega)
   ·show inRange (k:Int) (List.length x.1)=true
    rw[hx]
    exact inR hi
   ·show some (TL.on (w64 ((k:Int)+1),m,r0,(d,L,w64 (c+(List.getD x.1 (Int.toNat (k:Int)) (Ty.dflt qhU)).2.2.2.1),h,rest)))=_
    rw[hx,hg,hw,qt (n:=(k:Int)+1) (by omega) (by omega)]
    rfl
  refine(qcx hT).trans ((qzo evs hev hl m r0 d L h rest x hx y n (k+1) (c+E.2.2.2.1) (by omega) (by omega) (by omega)).trans ?_)
  show some (0,(((evs.length:Nat):Int),m,r0,(d,L,c+E.2.2.2.1+qrf (evs.drop (k+1)),h,rest)))=some (0,(((evs.length:Nat):Int),m,r0,(d,L,c+(E.2.2.2.1+qrf (evs.drop (k+1))),h,rest)))
  rw[Int.add_assoc]
theorem qLw (m:qoA) (st:qG.den) (dn:Bool) (y:qer) (hL:RLink m st dn y) (hf:StFit m.2.1) (evs:List qhU.den) (h:Int) (hev:∀e∈evs,0≤(show Int from e.2.2.2.1)∧(show Int from e.2.2.2.1)≤12) (hl:evs.length≤67108864) :
  (qdJ (m,evs,h)).val=some (dn,((evs.length:Nat):Int),qrf evs,h,qtr 537919488 y,qtr 538968064 y,(qky 2 y).1,(qky 3 y).1,(qky 4 y).1,()):=by
 have key:=qzo evs hev hl m (false,0,0,0,0,0,[],[],[],()) m.2.2.2.1 (qh evs) h (0,0,[],[],[],()) (evs,(),(),(),0) rfl (m,(false,0,0,0,0,0,[],[],[],()),m.2.2.2.1,qh evs,0,h,0,0,[],[],[],()) evs.length 0 0 (by omega) (Int.le_refl 0) (by omega)
 rw[List.drop_zero,Int.zero_add] at key
 have gl:∀a:Int,0≤a→a<2305843009213693952→qdf (m.2.1,m.2.2.2.2.1,a,4)=true:=fun a h0 h1=>decide_eq_true ⟨hf.ok,hL.past,h0,h1⟩
 have gr:∀k:Int,0≤k→k<7→qdQ (m.2.1,m.2.2.2.2.1,k)=true:=fun k h0 h1=>decide_eq_true ⟨hf.ok,hL.past,h0,h1,qMw hf⟩
 have vl:∀a:Int,qbs (m.2.1,m.2.2.2.2.1,a,4)=qmA y a 4:=fun a=>(qCS hL.wf hL.mem a 4).symm
 have vr:∀k:Nat,k<7→qcq (m.2.1,m.2.2.2.2.1,(k:Int))=(qky (k:Int) y).1:=fun k hk=>(qJS hL.wf hL.mem k hk).symm
 unfold qdJ
 refine(qdl (r:=(0,(((evs.length:Nat):Int),m,(false,0,0,0,0,0,[],[],[],()),(m.2.2.2.1,qh evs,qrf evs,h,0,0,[],[],[],())))) ?_).trans ?_
 ·exact key
 ·refine(qe (gl 537919488 (by decide) (by decide))).trans ((qe (gl 538968064 (by decide) (by decide))).trans ((qe (gr 2 (by decide) (by decide))).trans ((qe (gr 3 (by decide) (by decide))).trans ((qe (gr 4 (by decide) (by decide))).trans ?_))))
  show some (m.2.2.2.1,qh evs,qrf evs,h,(qbs (m.2.1,m.2.2.2.2.1,537919488,4)).1,(qbs (m.2.1,m.2.2.2.2.1,538968064,4)).1,qcq (m.2.1,m.2.2.2.2.1,((2:Nat):Int)),qcq (m.2.1,m.2.2.2.2.1,((3:Nat):Int)),qcq (m.2.1,m.2.2.2.2.1,((4:Nat):Int)),())=_
  rw[vl,vl,vr 2 (by decide),vr 3 (by decide),vr 4 (by decide),hL.done]
  rfl
theorem qMA (m:qoA) (st:qG.den) (y:qer) (f:qw.den) (budget:Int) (hb:0≤budget∧budget≤67108864) (hL:RLink m st false y) (hf:StFit m.2.1) (hpc:0≤(show Int from st.2.1)∧(show Int from st.2.1)<4294967296) (hr:List.length st.1=15) (hh:0≤(show Int from m.1.2.1)∧(show Int from m.1.2.1)<4294967296) (hp:m.2.2.2.2.1=[]) :
  ∃l',(qd9 (m,f,budget) ()).val=some (((m.1,m.2.1,(goX m.1 m.2.1.2.1 f budget.toNat 0 (st,false,y)).2.2.1,(goX m.1 m.2.1.2.1 f budget.toNat 0 (st,false,y)).2.2.2.1,l',()),(goX m.1 m.2.1.2.1 f budget.toNat 0 (st,false,y)).1,(goX m.1 m.2.1.2.1 f budget.toNat 0 (st,false,y)).2.1,()),()) ∧
   RLink (m.1,m.2.1,(goX m.1 m.2.1.2.1 f budget.toNat 0 (st,false,y)).2.2.1,(goX m.1 m.2.1.2.1 f budget.toNat 0 (st,false,y)).2.2.2.1,l',()) (goX m.1 m.2.1.2.1 f budget.toNat 0 (st,false,y)).2.2.1 (goX m.1 m.2.1.2.1 f budget.toNat 0 (st,false,y)).2.2.2.1 (goX m.1 m.2.1.2.1 f budget.toNat 0 (st,false,y)).2.2.2.2:=by
 obtain⟨l',e1,e2⟩:=qKf f budget hb.2 ((0,0,(0,0,0,()),0,()),((0,0,0,()),[],[],()),([0,0,0,0,0,0,0,0,0,0,0,0,0,0,0],0,false,false,false,false,()),false,[],()) (budget,(),(),(),[],0) rfl (m,f,((0,0,(0,0,0,()),0,()),((0,0,0,()),[],[],()),([0,0,0,0,0,0,0,0,0,0,0,0,0,0,0],0,false,false,false,false,()),false,[],()))
  budget.toNat 0 [] 0 m st false y (by omega) rfl hL hf hpc hr hh (by rw[hp];exact Nat.le_refl _) (Int.le_refl 0) (Int.le_refl 0)
 refine⟨l',?_,e2⟩
 unfold qd9
 refine(qdl (r:=_) e1).trans ?_
 show some (((m.1,m.2.1,_,_,l',()),[]++_,0+_,()),())=_
 rw[List.nil_append,Int.zero_add]
 rfl
end Go.Av
end
section
namespace Go.Av
open Go
abbrev qGL:qoA:=((0,0,(0,0,0,()),0,()),((0,0,0,()),[],[],()),([0,0,0,0,0,0,0,0,0,0,0,0,0,0,0],0,false,false,false,false,()),false,[],())
abbrev rstart (hd:qcL.den) (img inp:List UInt8):qoA:=(hd,(hd.2.2.1,img,inp,()),(List.set (List.set [0,0,0,0,0,0,0,0,0,0,0,0,0,0,0] 13 537133056) 14 4294967295,hd.1,false,false,false,false,()),false,[],())
theorem qCs (s:List UInt8) (hl:s.length<9223372036854775808):qdr s=true∧qR s=qS s:=by
 have h:=qK8 s hl
 exact⟨by unfold qdr;rw[h];rfl,by unfold qR PO.qQ;rw[h];rfl⟩
theorem qTD {i o r:Int} {img inp:List UInt8} (hc:q7 ((i,o,r,()),qh img)=0):qeL ((i,o,r,()),img,inp,())=bif qh inp != i then 2 else 0:=by
 obtain⟨_,_,⟨r0,r1⟩,_⟩:=qib i o r _ hc
 have h5:qbb ((i,o,r,()),qh img)=0:=(qrL i o r (qh img) ⟨by omega,by omega⟩).symm.trans hc
 unfold qeL PO.qQ qhV
 simp only[h5]
 cases (qh inp != i)<;>rfl
theorem qNI (img inp:List UInt8) (hl:img.length<9223372036854775808):(qfX (img,inp)).val=some (bif (qS img).2.1 != (0:Int) then(qGL,(qS img).2.1,()) else bif qh inp != (qS img).1.2.2.1.1 then(qGL,2,()) else(rstart (qS img).1 img inp,0,())):=by
 obtain⟨g,v⟩:=qCs img hl
 unfold qfX
 refine(qe g).trans ?_
 simp only[v]
 cases h1:((qS img).2.1 != (0:Int)) with
 |true=>exact(qe rfl).trans rfl
 |false =>
  refine(qv rfl).trans ?_
  obtain⟨rs,hn,i,o,r,md,e,f1,f2,f3,f4,f5⟩:=qlv img h1
  rw[e]
  have h7:=qTD (inp:=inp) f1
  simp only[cond_false]
  rw[h7]
  cases h2:(qh inp != i) with
  |true=>exact(qe rfl).trans rfl
  |false=>exact(qv rfl).trans rfl
theorem qMo {img inp:List UInt8} {i o r:Int} (f1:q7 ((i,o,r,()),qh img)=0) (f4:qh img≤262144) (h2:(qh inp != i)=false):StFit ((i,o,r,()),img,inp,()):=by
 obtain⟨a,b,c,_⟩:=qib i o r _ f1
 have h5:qbb ((i,o,r,()),qh img)=0:=(qrL i o r (qh img) ⟨by omega,by omega⟩).symm.trans f1
 obtain⟨g1,g2,g3⟩:=qyV i o r (qh img) f1 (by simp only[qh];omega)
 have hin:((inp.length:Nat):Int)=i:=by simpa [qh] using h2
 simp only[qh] at f4
 exact⟨⟨h5,g1,by show img.length<_;omega,by show inp.length<_;omega⟩,by show img.length≤_;omega,a,b,c,hin⟩
theorem qMp {img inp:List UInt8} (h1:((qS img).2.1 != (0:Int))=false) (h2:(qh inp != (qS img).1.2.2.1.1)=false) (f:qw.den) (b:Int) (hb:0≤b∧b≤67108864) :
  ∃m':qoA,(qd9 (rstart (qS img).1 img inp,f,b) ()).val=some ((m',(goX (qS img).1 img f b.toNat 0 (qbF (qcA (qS img).1 img inp))).1,(goX (qS img).1 img f b.toNat 0 (qbF (qcA (qS img).1 img inp))).2.1,()),()) ∧
   (qdJ (m',(goX (qS img).1 img f b.toNat 0 (qbF (qcA (qS img).1 img inp))).1,(goX (qS img).1 img f b.toNat 0 (qbF (qcA (qS img).1 img inp))).2.1)).val=some (qtz (qcA (qS img).1 img inp) f b):=by
 obtain⟨rs,hn,i,o,r,md,e,f1,f2,f3,f4,f5⟩:=qlv img h1
 have hwf:=qt8 rs hn i o r md img inp f1 f2 f3 f4
 rw[e] at h2 ⊢
 have hfit:=qMo f1 f4 h2
 have hL:RLink (rstart (rs,hn,(i,o,r,()),md,()) img inp) (qbF (qcA (rs,hn,(i,o,r,()),md,()) img inp)).1 false (qbF (qcA (rs,hn,(i,o,r,()),md,()) img inp)).2.2 :=
  ⟨rfl,rfl,qNu hfit,⟨(by decide:(0:Nat)<4611686018427387904),fun x hx=>by cases hx⟩,hwf.mem⟩
 obtain⟨l',s1,s2⟩:=qMA (rstart (rs,hn,(i,o,r,()),md,()) img inp) (qbF (qcA (rs,hn,(i,o,r,()),md,()) img inp)).1 (qbF (qcA (rs,hn,(i,o,r,()),md,()) img inp)).2.2 f b hb hL hfit hwf.pc hwf.regs hwf.hand rfl
 have hev:=qMf (rs,hn,(i,o,r,()),md,()) img f hwf.hand b.toNat 0 (qbF (qcA (rs,hn,(i,o,r,()),md,()) img inp)) hwf.mem hwf.regs
 have hln:=qL8 (rs,hn,(i,o,r,()),md,()) img f b.toNat 0 (qbF (qcA (rs,hn,(i,o,r,()),md,()) img inp))
 have hrs:((qbF (qcA (rs,hn,(i,o,r,()),md,()) img inp)).1,false,(qbF (qcA (rs,hn,(i,o,r,()),md,()) img inp)).2.2)=qbF (qcA (rs,hn,(i,o,r,()),md,()) img inp):=rfl
 refine⟨_,s1,?_⟩
 have:=qLw _ _ _ _ s2 hfit (goX (rs,hn,(i,o,r,()),md,()) img f b.toNat 0 (qbF (qcA (rs,hn,(i,o,r,()),md,()) img inp))).1 (goX (rs,hn,(i,o,r,()),md,()) img f b.toNat 0 (qbF (qcA (rs,hn,(i,o,r,()),md,()) img inp))).2.1 hev (by omega)
 exact this
theorem qOD (img inp:List UInt8) (f:qw.den) (b:Int) (hl:img.length<9223372036854775808):(qfP (img,inp,f,b)).val=some (qcw img inp f b):=by
 have hN:=qNI img inp hl
 have gN:qgb (img,inp)=true:=by unfold qgb;rw[hN];rfl
 have vN:qbY (img,inp)=(bif (qS img).2.1 != (0:Int) then(qGL,(qS img).2.1,()) else bif qh inp != (qS img).1.2.2.1.1 then(qGL,2,()) else(rstart (qS img).1 img inp,0,())):=by unfold qbY PO.qQ;rw[hN];rfl
 unfold qfP qcw
 refine(qe gN).trans ?_
 unfold qqP qqD
 simp only[vN]
 cases h1:((qS img).2.1 != (0:Int)) with
 |true =>
  simp only[cond_true]
  exact(qe h1).trans rfl
 |false =>
 simp only[cond_false]
 cases h2:(qh inp != (qS img).1.2.2.1.1) with
 |true =>
  simp only[cond_true]
  exact(qe rfl).trans rfl
 |false =>
 simp only[cond_false]
 refine(qv rfl).trans ?_
 rw[quL f]
 cases h3:(qE f != 0||(decide (b<0)||decide (b > 67108864))) with
 |true=>exact(qe rfl).trans rfl
 |false =>
  refine(qv rfl).trans ?_
  simp only[Bool.or_eq_false_iff,decide_eq_false_iff_not] at h3
  have hb:0≤b∧b≤67108864:=⟨by omega,by omega⟩
  obtain⟨m',s1,s2⟩:=qMp h1 h2 f b hb
  have gS:qeY (rstart (qS img).1 img inp,f,b) ()=true:=by unfold qeY;rw[s1];rfl
  have vS:qcm (rstart (qS img).1 img inp,f,b) ()=((m',(goX (qS img).1 img f b.toNat 0 (qbF (qcA (qS img).1 img inp))).1,(goX (qS img).1 img f b.toNat 0 (qbF (qcA (qS img).1 img inp))).2.1,()),()):=by unfold qcm PO.qQ;rw[s1];rfl
  have gR:qeD (m',(goX (qS img).1 img f b.toNat 0 (qbF (qcA (qS img).1 img inp))).1,(goX (qS img).1 img f b.toNat 0 (qbF (qcA (qS img).1 img inp))).2.1)=true:=by unfold qeD;rw[s2];rfl
  have vR:qdN (m',(goX (qS img).1 img f b.toNat 0 (qbF (qcA (qS img).1 img inp))).1,(goX (qS img).1 img f b.toNat 0 (qbF (qcA (qS img).1 img inp))).2.1)=qtz (qcA (qS img).1 img inp) f b:=by unfold qdN PO.qQ;rw[s2];rfl
  refine(qe gS).trans ?_
  simp only[vS]
  refine(qe gR).trans ?_
  show some (qdN (m',_,_),(0:Int),())=_
  rw[vR]
  rfl
theorem qLp (img inp:List UInt8) (f:qw.den) (b:Int) (hl:img.length<9223372036854775808):qdx (img,inp,f,b)=true∧qbZ (img,inp,f,b)=qcw img inp f b:=by
 have h:=qOD img inp f b hl
 exact⟨by unfold qdx;rw[h];rfl,by unfold qbZ PO.qQ;rw[h];rfl⟩
end Go.Av
end
section
namespace Go.Av
open Go
theorem qSd {b a:Bool}:(bif b then a||true else true)=true:=by cases b<;>simp
end Go.Av
end
