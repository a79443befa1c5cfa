/- What is known of a function that is given boxes: from its walk. -/
import Derived.Test.YtamnhodjidmlcaaGreatAvIter
namespace Go.Av
open Go
def qnu (ss hs:List Sh) (rs:Sh) (hs':List Sh) (G:ql ss→ql hs→Bool) (V:ql ss→ql hs→rs.den×ql hs'):Body:=fun args h _ K =>
 match qnB ss args,(contents 0 h).bind (qnB hs) with
 |some x,some y=>bif G x y then K ⟨rs,(V x y).1⟩ (enum 0 (qgR hs' (V x y).2)) 64 else none
 |_,_=>none
def qyP (k:Nat) (v:AV) (h:qbk):List Nat:=reach h 4 (qee (List.range k) (v.sh.boxes.filter (qk4 h)))
def qNV (k:Nat) (v:AV) (h:qbk):List Nat:=qee [] (v.sh.rows++qlz h (qyP k v h))
def qOx (k:Nat):AV→qbk→Nat→Option R:=fun v h _=>match qvJ v with
 |some _=>none
 |none=>if((qyP k v h).all (qk4 h)&&(List.range k).all fun j=>(match qbu j (qyP k v h) 0 with
   |some i=>Nat.beq i j
   |none=>false)) then
    some (v.ren (fun id=>qbu id (qNV k v h) 0) (fun id=>qbu id (qyP k v h) 0),
     qme h (fun id=>qbu id (qNV k v h) 0) (fun id=>qbu id (qyP k v h) 0) (qyP k v h) 0,64) else none
theorem qDK {w:World} {K:Kinds}:∀(ts:List Sh) (as:List AV) (x:ql ts) (vs:List Value),qnB ts as=some x→RVs w K as vs→RVs w K (qgR ts x) vs
 |[],[],_,_,_,hv=>hv
 |[t],[a],x,[v],h,hv=>⟨qGO h hv.1,hv.2⟩
 |[t],[a],x,[],h,hv=>hv.elim
 |[t],[a],x,_::_::_,h,hv=>hv.2.elim
 |t::u::ts,a::l,x,v::vs,h,hv=>by
  simp only[qnB] at h
  split at h
  ·rename_i p q hp hq
   cases h
   exact⟨qGO hp hv.1,qDK (u::ts) l q vs hq hv.2⟩
  ·cases h
 |_::_::_,_::_,_,[],_,hv=>hv.elim
 |[],_::_,_,_,h,_=>by cases h
 |[t],[],_,_,h,_=>by cases h
 |[t],_::_::_,_,_,h,_=>by cases h
 |_::_::_,[],_,_,h,_=>by cases h
theorem qeV.to {w:World} {K:Kinds} {h:qbk} {hs:List Sh} {y:ql hs} (hh:qeV w K h) (hy:(contents 0 h).bind (qnB hs)=some y):qeV w K (enum 0 (qgR hs y)):=by
 obtain⟨l,hl,hly⟩:=Option.bind_eq_some_iff.1 hy
 refine⟨fun b id hb hk=>?_,hh.uniq⟩
 obtain⟨av,o,l1,l2,l3⟩:=hh.cells b id hb hk
 obtain⟨i,e1,e2⟩:=qst _ _ _ hl id av l1
 obtain⟨c,c1,c2⟩:=qxs hs l y hly i av _ e2 l3
 exact⟨c,o,by rw[e1];exact qwX _ _ _ _ c1,l2,c2⟩
theorem qxp:∀(l:List AV) (k id:Nat) (c:AV),look id (enum k l)=some c→id<k+l.length
 |[],_,_,_,h=>by cases h
 |a::l,k,id,c,h=>by
  simp only[enum,look] at h
  split at h
  ·rename_i e
   simp only[beq_iff_eq] at e
   subst e
   simp
  ·split at h
   ·cases h
   ·have:=qxp l (k+1) id c h
    simp only[List.length_cons]
    omega
theorem qQL {w w':World} {K K':Kinds} {ts bs:List Nat} (g:Ext w K w' K') (h:∀b id,b<w.heap.size→K b=.box id→qbu id bs 0=some id):Ext w K w' (qbr ts bs K') where
 os:=g.os
 tape:=g.tape
 output:=g.output
 size:=g.size
 fix:=fun b hb hk=>by
  obtain⟨h1,h2⟩:=g.fix b hb hk
  exact⟨(qoJ (by rw[h1];exact hk)).trans h1,h2⟩
 stab:=fun b o hb hs=>by
  obtain⟨h1,h2⟩:=g.stab b o hb hs
  exact⟨(qpW _ _ _ _ _).2 h1,h2⟩
 box:=fun b id hb hk=>by
  have:=g.box b id hb hk
  unfold qbr
  rw[this]
  simp only[h b id hb hk]
 bsz:=g.bsz
theorem qPX {C:Ctx} (hC:Good C) {f:FuncId} {ss hs:List Sh} {rs:Sh} {hs':List Sh} {G:ql ss→ql hs→Bool} {V:ql ss→ql hs→rs.den×ql hs'} (d unroll:Nat)
  (h:∀x y,G x y=true→evF C qeQ unroll d f (qgR ss x) (enum 0 (qgR hs y)) 64 (qOx hs.length)=some (⟨rs,(V x y).1⟩,enum 0 (qgR hs' (V x y).2),64)):qsh C.P f (qnu ss hs rs hs' G V):=by
 intro args h0 nx Kc r hrun w K vs hvs hh Rf hk _
 simp only[qnu] at hrun
 split at hrun
 ·rename_i x y hx hy
  cases hG:G x y with
  |false=>rw[hG] at hrun;cases hrun
  |true =>
   rw[hG] at hrun
   simp only[cond_true] at hrun
   have hho:=hh.to hy
   have hlt:∀b id,b<w.heap.size→K b=.box id→id<hs.length:=fun b id hb hkb=>by
    obtain⟨av,o,l1,_⟩:=hho.cells b id hb hkb
    have:=qxp _ _ _ _ l1
    rw[quK] at this
    omega
   refine(qtq hC unroll d f).1 _ _ _ _ _ (h x y hG) w K vs (qDK ss args x vs hx hvs) hho Rf (fun av u h' nx' w' K' g hrv hho' hkc=>?_) (fun u h' nx' w' K' g hh hkc=>by cases hkc)
   unfold qOx at hkc
   split at hkc
   ·cases hkc
   ·split at hkc
    ·rename_i hc
     simp only[Bool.and_eq_true] at hc
     obtain⟨hbs,hid⟩:=hc
     simp only[Option.some.injEq,Prod.mk.injEq] at hkc
     obtain⟨e1,e2,_⟩:=hkc
     generalize qyP hs.length av h'=bs at *
     generalize qNV hs.length av h'=ts at *
     have hv:RV w' (qbr ts bs K') ⟨rs,(V x y).1⟩ u:=by
      rw[←e1]
      exact RV.enter (fun _ _ e=>e) (fun _ _ e=>e) hrv
     have hhe:qeV w' (qbr ts bs K') (enum 0 (qgR hs' (V x y).2)):=by
      rw[←e2]
      exact qeV.enter hho' (qIi hbs)
     refine hk _ u _ _ w' _ (qQL g (fun b id hb hkb=>?_)) hv hhe hrun
     have:=List.all_eq_true.1 hid id (List.mem_range.2 (hlt b id hb hkb))
     split at this
     ·rename_i i hi
      rw[hi,Nat.eq_of_beq_eq_true this]
     ·cases this
    ·cases hkc
 ·cases hrun
theorem Good.fnB {C:Ctx} (h:Good C) {f:FuncId} {ss hs:List Sh} {hs':List Sh} (rs:Sh) (T:ql ss→ql hs→PO (rs.den×ql hs')) (G:ql ss→ql hs→Bool) (V:ql ss→ql hs→rs.den×ql hs') (d unroll:Nat) (hb:qnd C.P f=true)
  (hw:∀x y,evF C qeQ unroll d f (qgR ss x) (enum 0 (qgR hs y)) 64 (qOx hs.length)=(T x y).run fun v=>some (⟨rs,v.1⟩,enum 0 (qgR hs' v.2),64)) (hg:∀x y,G x y=true→(T x y).val=some (V x y)):Good (C.addBody f (qnu ss hs rs hs' G V)):=by
 refine h.addBody (qPX h d unroll (fun x y hx=>?_)) hb
 rw[hw,PO.qpS,hg x y hx]
 rfl
end Go.Av
