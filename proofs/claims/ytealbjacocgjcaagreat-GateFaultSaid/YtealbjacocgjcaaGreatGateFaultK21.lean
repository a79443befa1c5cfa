/- Texts of the proof, one behind the other. -/
import Derived.Test.YtealbjacocgjcaaGreatGateFaultK20
section
namespace Go.Av
open Go
def qf5 (ss hs:List Sh) (rs:Sh) (hs':List Sh) (G:qh ss→qh hs→Bool) (V:qh ss→qh hs→rs.den×qh hs'):Body:=fun args h _ K =>
 match qkY ss args,(contents 0 h).bind (qkY hs) with
 |some x,some y=>bif G x y then K ⟨rs,(V x y).1⟩ (enum 0 (qe9 hs' (V x y).2)) 64 else none
 |_,_=>none
def qxo (k:Nat) (v:AV) (h:q9):List Nat:=reach h 4 (qdw (List.range k) (v.sh.boxes.filter (qim h)))
def qNc (k:Nat) (v:AV) (h:q9):List Nat:=qdw [] (v.sh.rows++qi4 h (qxo k v h))
def qL4 (k:Nat):AV→q9→Nat→Option R:=fun v h _=>match qt9 v with
 |some _=>none
 |none=>if((qxo k v h).all (qim h)&&(List.range k).all fun j=>(match qbo j (qxo k v h) 0 with
   |some i=>Nat.beq i j
   |none=>false)) then
    some (v.ren (fun id=>qbo id (qNc k v h) 0) (fun id=>qbo id (qxo k v h) 0),
     qjG h (fun id=>qbo id (qNc k v h) 0) (fun id=>qbo id (qxo k v h) 0) (qxo k v h) 0,64) else none
theorem qsh {w:World} {K:Kinds}:∀(ts:List Sh) (as:List AV) (x:qh ts) (vs:List Value),qkY ts as=some x→RVs w K as vs→RVs w K (qe9 ts x) vs
 |[],[],_,_,_,hv=>hv
 |[t],[a],x,[v],h,hv=>⟨qBb h hv.1,hv.2⟩
 |[t],[a],x,[],h,hv=>hv.elim
 |[t],[a],x,_::_::_,h,hv=>hv.2.elim
 |t::u::ts,a::l,x,v::vs,h,hv=>by
  simp only[qkY] at h
  split at h
  ·rename_i p q hp hq
   cases h
   exact⟨qBb hp hv.1,qsh (u::ts) l q vs hq hv.2⟩
  ·cases h
 |_::_::_,_::_,_,[],_,hv=>hv.elim
 |[],_::_,_,_,h,_=>by cases h
 |[t],[],_,_,h,_=>by cases h
 |[t],_::_::_,_,_,h,_=>by cases h
 |_::_::_,[],_,_,h,_=>by cases h
theorem qdk.to {w:World} {K:Kinds} {h:q9} {hs:List Sh} {y:qh hs} (hh:qdk w K h) (hy:(contents 0 h).bind (qkY hs)=some y):qdk w K (enum 0 (qe9 hs y)):=by
 obtain⟨l,hl,hly⟩:=Option.bind_eq_some_iff.1 hy
 refine⟨fun b id hb hk=>?_,hh.uniq⟩
 obtain⟨av,o,l1,l2,l3⟩:=hh.cells b id hb hk
 obtain⟨i,e1,e2⟩:=qqo _ _ _ hl id av l1
 obtain⟨c,c1,c2⟩:=qvu hs l y hly i av _ e2 l3
 exact⟨c,o,by rw[e1];exact qvi _ _ _ _ c1,l2,c2⟩
theorem qru:∀(l:List AV) (k id:Nat) (c:AV),look id (enum k l)=some c→id<k+l.length
 |[],_,_,_,h=>by cases h
 |a::l,k,id,c,h=>by
  simp only[enum,look] at h
  split at h
  ·rename_i e
   simp only[beq_iff_eq] at e
   subst e
   simp
  ·split at h
   ·cases h
   ·have:=qru l (k+1) id c h
    simp only[List.length_cons]
    omega
theorem qPz {w w':World} {K K':Kinds} {ts bs:List Nat} (g:Ext w K w' K') (h:∀b id,b<w.heap.size→K b=.box id→qbo id bs 0=some id):Ext w K w' (qbh ts bs K') where
 os:=g.os
 tape:=g.tape
 output:=g.output
 size:=g.size
 fix:=fun b hb hk=>by
  obtain⟨h1,h2⟩:=g.fix b hb hk
  exact⟨(qmb (by rw[h1];exact hk)).trans h1,h2⟩
 stab:=fun b o hb hs=>by
  obtain⟨h1,h2⟩:=g.stab b o hb hs
  exact⟨(qnm _ _ _ _ _).2 h1,h2⟩
 box:=fun b id hb hk=>by
  have:=g.box b id hb hk
  unfold qbh
  rw[this]
  simp only[h b id hb hk]
 bsz:=g.bsz
theorem qPH {C:Ctx} (hC:Good C) {f:FuncId} {ss hs:List Sh} {rs:Sh} {hs':List Sh} {G:qh ss→qh hs→Bool} {V:qh ss→qh hs→rs.den×qh hs'} (d unroll:Nat)
  (h:∀x y,G x y=true→evF C qd7 unroll d f (qe9 ss x) (enum 0 (qe9 hs y)) 64 (qL4 hs.length)=some (⟨rs,(V x y).1⟩,enum 0 (qe9 hs' (V x y).2),64)):qms C.P f (qf5 ss hs rs hs' G V):=by
 intro args h0 nx Kc r hrun w K vs hvs hh Rf hk _
 simp only[qf5] at hrun
 split at hrun
 ·rename_i x y hx hy
  cases hG:G x y with
  |false=>rw[hG] at hrun;cases hrun
  |true =>
   rw[hG] at hrun
   simp only[cond_true] at hrun
   have hho:=hh.to hy
   have hlt:∀b id,b<w.heap.size→K b=.box id→id<hs.length:=fun b id hb hkb=>by
    obtain⟨av,o,l1,_⟩:=hho.cells b id hb hkb
    have:=qru _ _ _ _ l1
    rw[qsz] at this
    omega
   refine(qrI hC unroll d f).1 _ _ _ _ _ (h x y hG) w K vs (qsh ss args x vs hx hvs) hho Rf (fun av u h' nx' w' K' g hrv hho' hkc=>?_) (fun u h' nx' w' K' g hh hkc=>by cases hkc)
   unfold qL4 at hkc
   split at hkc
   ·cases hkc
   ·split at hkc
    ·rename_i hc
     simp only[Bool.and_eq_true] at hc
     obtain⟨hbs,hid⟩:=hc
     simp only[Option.some.injEq,Prod.mk.injEq] at hkc
     obtain⟨e1,e2,_⟩:=hkc
     generalize qxo hs.length av h'=bs at *
     generalize qNc hs.length av h'=ts at *
     have hv:RV w' (qbh ts bs K') ⟨rs,(V x y).1⟩ u:=by
      rw[←e1]
      exact RV.enter (fun _ _ e=>e) (fun _ _ e=>e) hrv
     have hhe:qdk w' (qbh ts bs K') (enum 0 (qe9 hs' (V x y).2)):=by
      rw[←e2]
      exact qdk.enter hho' (qDB hbs)
     refine hk _ u _ _ w' _ (qPz g (fun b id hb hkb=>?_)) hv hhe hrun
     have:=List.all_eq_true.1 hid id (List.mem_range.2 (hlt b id hb hkb))
     split at this
     ·rename_i i hi
      rw[hi,Nat.eq_of_beq_eq_true this]
     ·cases this
    ·cases hkc
 ·cases hrun
theorem Good.fnB {C:Ctx} (h:Good C) {f:FuncId} {ss hs:List Sh} {hs':List Sh} (rs:Sh) (T:qh ss→qh hs→PO (rs.den×qh hs')) (G:qh ss→qh hs→Bool) (V:qh ss→qh hs→rs.den×qh hs') (d unroll:Nat) (hb:qkJ C.P f=true)
  (hw:∀x y,evF C qd7 unroll d f (qe9 ss x) (enum 0 (qe9 hs y)) 64 (qL4 hs.length)=(T x y).run fun v=>some (⟨rs,v.1⟩,enum 0 (qe9 hs' v.2),64)) (hg:∀x y,G x y=true→(T x y).val=some (V x y)):Good (C.addBody f (qf5 ss hs rs hs' G V)):=by
 refine h.addBody (qPH h d unroll (fun x y hx=>?_)) hb
 rw[hw,PO.qnw,hg x y hx]
 rfl
end Go.Av
end
