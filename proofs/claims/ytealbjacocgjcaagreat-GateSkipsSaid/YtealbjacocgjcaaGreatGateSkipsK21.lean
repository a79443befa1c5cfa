/- Texts of the proof, one behind the other. -/
import Derived.Test.YtealbjacocgjcaaGreatGateSkipsK20
section
namespace Go.Av
open Go
def bodyT (ss hs:List Sh) (rs:Sh) (hs':List Sh) (G:shDens ss→shDens hs→Bool) (V:shDens ss→shDens hs→rs.den×shDens hs'):Body:=fun args h _ K =>
 match toAll ss args,(contents 0 h).bind (toAll hs) with
 |some x,some y=>bif G x y then K ⟨rs,(V x y).1⟩ (enum 0 (savs hs' (V x y).2)) 64 else none
 |_,_=>none
def remB (k:Nat) (v:AV) (h:Heap):List Nat:=reach h 4 (addNew (List.range k) (v.sh.boxes.filter (hasBox h)))
def remT (k:Nat) (v:AV) (h:Heap):List Nat:=addNew [] (v.sh.rows++contentRows h (remB k v h))
def finB (k:Nat):AV→Heap→Nat→Option R:=fun v h _=>match panOf v with
 |some _=>none
 |none=>if((remB k v h).all (hasBox h)&&(List.range k).all fun j=>(match indexIn j (remB k v h) 0 with
   |some i=>Nat.beq i j
   |none=>false)) then
    some (v.ren (fun id=>indexIn id (remT k v h) 0) (fun id=>indexIn id (remB k v h) 0),
     localHeap h (fun id=>indexIn id (remT k v h) 0) (fun id=>indexIn id (remB k v h) 0) (remB k v h) 0,64) else none
theorem toAll_RVs {w:World} {K:Kinds}:∀(ts:List Sh) (as:List AV) (x:shDens ts) (vs:List Value),toAll ts as=some x→RVs w K as vs→RVs w K (savs ts x) vs
 |[],[],_,_,_,hv=>hv
 |[t],[a],x,[v],h,hv=>⟨to_RV h hv.1,hv.2⟩
 |[t],[a],x,[],h,hv=>hv.elim
 |[t],[a],x,_::_::_,h,hv=>hv.2.elim
 |t::u::ts,a::l,x,v::vs,h,hv=>by
  simp only[toAll] at h
  split at h
  ·rename_i p q hp hq
   cases h
   exact⟨to_RV hp hv.1,toAll_RVs (u::ts) l q vs hq hv.2⟩
  ·cases h
 |_::_::_,_::_,_,[],_,hv=>hv.elim
 |[],_::_,_,_,h,_=>by cases h
 |[t],[],_,_,h,_=>by cases h
 |[t],_::_::_,_,_,h,_=>by cases h
 |_::_::_,[],_,_,h,_=>by cases h
theorem HeapOk.to {w:World} {K:Kinds} {h:Heap} {hs:List Sh} {y:shDens hs} (hh:HeapOk w K h) (hy:(contents 0 h).bind (toAll hs)=some y):HeapOk w K (enum 0 (savs hs y)):=by
 obtain⟨l,hl,hly⟩:=Option.bind_eq_some_iff.1 hy
 refine⟨fun b id hb hk=>?_,hh.uniq⟩
 obtain⟨av,o,l1,l2,l3⟩:=hh.cells b id hb hk
 obtain⟨i,e1,e2⟩:=contents_look _ _ _ hl id av l1
 obtain⟨c,c1,c2⟩:=toAll_Box hs l y hly i av _ e2 l3
 exact⟨c,o,by rw[e1];exact look_enum _ _ _ _ c1,l2,c2⟩
theorem look_enum_lt:∀(l:List AV) (k id:Nat) (c:AV),look id (enum k l)=some c→id<k+l.length
 |[],_,_,_,h=>by cases h
 |a::l,k,id,c,h=>by
  simp only[enum,look] at h
  split at h
  ·rename_i e
   simp only[beq_iff_eq] at e
   subst e
   simp
  ·split at h
   ·cases h
   ·have:=look_enum_lt l (k+1) id c h
    simp only[List.length_cons]
    omega
theorem far_ext {w w':World} {K K':Kinds} {ts bs:List Nat} (g:Ext w K w' K') (h:∀b id,b<w.heap.size→K b=.box id→indexIn id bs 0=some id):Ext w K w' (farK ts bs K') where
 os:=g.os
 tape:=g.tape
 output:=g.output
 size:=g.size
 fix:=fun b hb hk=>by
  obtain⟨h1,h2⟩:=g.fix b hb hk
  exact⟨(farK_fixed (by rw[h1];exact hk)).trans h1,h2⟩
 stab:=fun b o hb hs=>by
  obtain⟨h1,h2⟩:=g.stab b o hb hs
  exact⟨(stab_farK _ _ _ _ _).2 h1,h2⟩
 box:=fun b id hb hk=>by
  have:=g.box b id hb hk
  unfold farK
  rw[this]
  simp only[h b id hb hk]
 bsz:=g.bsz
theorem body_mk {C:Ctx} (hC:Good C) {f:FuncId} {ss hs:List Sh} {rs:Sh} {hs':List Sh} {G:shDens ss→shDens hs→Bool} {V:shDens ss→shDens hs→rs.den×shDens hs'} (d unroll:Nat)
  (h:∀x y,G x y=true→evF C drawOk unroll d f (savs ss x) (enum 0 (savs hs y)) 64 (finB hs.length)=some (⟨rs,(V x y).1⟩,enum 0 (savs hs' (V x y).2),64)):BodyOk C.P f (bodyT ss hs rs hs' G V):=by
 intro args h0 nx Kc r hrun w K vs hvs hh Rf hk _
 simp only[bodyT] at hrun
 split at hrun
 ·rename_i x y hx hy
  cases hG:G x y with
  |false=>rw[hG] at hrun;cases hrun
  |true =>
   rw[hG] at hrun
   simp only[cond_true] at hrun
   have hho:=hh.to hy
   have hlt:∀b id,b<w.heap.size→K b=.box id→id<hs.length:=fun b id hb hkb=>by
    obtain⟨av,o,l1,_⟩:=hho.cells b id hb hkb
    have:=look_enum_lt _ _ _ _ l1
    rw[savs_length] at this
    omega
   refine(evF_ok hC unroll d f).1 _ _ _ _ _ (h x y hG) w K vs (toAll_RVs ss args x vs hx hvs) hho Rf (fun av u h' nx' w' K' g hrv hho' hkc=>?_) (fun u h' nx' w' K' g hh hkc=>by cases hkc)
   unfold finB at hkc
   split at hkc
   ·cases hkc
   ·split at hkc
    ·rename_i hc
     simp only[Bool.and_eq_true] at hc
     obtain⟨hbs,hid⟩:=hc
     simp only[Option.some.injEq,Prod.mk.injEq] at hkc
     obtain⟨e1,e2,_⟩:=hkc
     generalize remB hs.length av h'=bs at *
     generalize remT hs.length av h'=ts at *
     have hv:RV w' (farK ts bs K') ⟨rs,(V x y).1⟩ u:=by
      rw[←e1]
      exact RV.enter (fun _ _ e=>e) (fun _ _ e=>e) hrv
     have hhe:HeapOk w' (farK ts bs K') (enum 0 (savs hs' (V x y).2)):=by
      rw[←e2]
      exact HeapOk.enter hho' (bs_get hbs)
     refine hk _ u _ _ w' _ (far_ext g (fun b id hb hkb=>?_)) hv hhe hrun
     have:=List.all_eq_true.1 hid id (List.mem_range.2 (hlt b id hb hkb))
     split at this
     ·rename_i i hi
      rw[hi,Nat.eq_of_beq_eq_true this]
     ·cases this
    ·cases hkc
 ·cases hrun
theorem Good.fnB {C:Ctx} (h:Good C) {f:FuncId} {ss hs:List Sh} {hs':List Sh} (rs:Sh) (T:shDens ss→shDens hs→PO (rs.den×shDens hs')) (G:shDens ss→shDens hs→Bool) (V:shDens ss→shDens hs→rs.den×shDens hs') (d unroll:Nat) (hb:hasBody C.P f=true)
  (hw:∀x y,evF C drawOk unroll d f (savs ss x) (enum 0 (savs hs y)) 64 (finB hs.length)=(T x y).run fun v=>some (⟨rs,v.1⟩,enum 0 (savs hs' v.2),64)) (hg:∀x y,G x y=true→(T x y).val=some (V x y)):Good (C.addBody f (bodyT ss hs rs hs' G V)):=by
 refine h.addBody (body_mk h d unroll (fun x y hx=>?_)) hb
 rw[hw,PO.run_val,hg x y hx]
 rfl
end Go.Av
end
