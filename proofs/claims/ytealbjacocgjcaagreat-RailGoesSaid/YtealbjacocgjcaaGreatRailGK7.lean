/- Texts of the proof, one behind the other. -/
import Derived.Test.YtealbjacocgjcaaGreatRailGK6
import Derived.Deep.AppendSrc
section
namespace Go.Av
open Go
section
variable {P:Program} {fr:Fr} {n:Nat} {K:Kinds} {s:St} {a:Act} {w:World} {o:Oper}
theorem run_append_row (t tx ty e:TypeId) (i:TypeInfo) (ht:P.underlying t=some (.slice e)) (hi:P.info? e=some i)
  (g off sLen sCap:Nat) (cur:Array Value) (T:TypeId) (hg:w.heap[g]?=some (.cells cur T (0,0)))
  (x:Value) (m:Nat) (news:List Value) (hS:Src P i.size tx x m news w)
  (hroom:sLen+m≤sCap) (hfit:off+sLen*i.size+news.length≤cur.size) :
  (Builtin.append_ #[t,tx] ty #[.slice (some ⟨g,off,none⟩) sLen sCap,x]).run P w =
   .ok (.slice (some ⟨g,off,none⟩) (sLen+m) sCap) (w.setRow g (cur.toList.take (off+sLen*i.size)++news++cur.toList.drop (off+sLen*i.size+news.length)).toArray):=by
 have hst:=run_storeCells_at P g (off+sLen*i.size) T news 0 cur w hg (by simpa using hfit) hS.one
 simp only[Nat.add_zero] at hst
 rcases hS.kind with⟨e',hk⟩ |hk<;>simp[Builtin.append_,run_underlying ht,run_underlying hk,sizeOf,typeInfo,hi,hS.len,hroom,hS.cells,Addr.add_lit,hst]
theorem run_append_nothing (t tx ty e:TypeId) (i:TypeInfo) (ht:P.underlying t=some (.slice e)) (hi:P.info? e=some i) (A:Option Addr) (sLen sCap:Nat) (h:sLen≤sCap) (x:Value) (hS:Src P i.size tx x 0 [] w) :
  (Builtin.append_ #[t,tx] ty #[.slice A sLen sCap,x]).run P w=.ok (.slice A sLen sCap) w:=by
 rcases hS.kind with⟨e',hk⟩ |hk<;>cases A<;>simp[Builtin.append_,run_underlying ht,run_underlying hk,sizeOf,typeInfo,hi,hS.len,h,hS.cells,storeCells]
def SLw {α:Type} (el:World→Kinds→α→List Value→Prop) (w:World) (K:Kinds) (xs:List α) (A:Option Addr) (len cap:Nat):Prop :=
 len=xs.length∧len≤cap∧(A=none→cap=0)∧∀a,A=some a→∃cc,RL (el w K) xs cc∧At w K a cc
theorem append_gen {α:Type} {el:World→Kinds→α→List Value→Prop} {sz:Nat} (hell:∀w K x c,el w K x c→c.length=sz) (hel1:∀w K x c,el w K x c→∀v∈c,v.oneCell'=true)
  (hext':∀{w K w' K'},Ext w K w' K'→∀x c,el w K x c→el w' K' x c) {t tx ty e:TypeId} {i:TypeInfo} (ht:P.underlying t=some (.slice e)) (hi:P.info? e=some i) {id:Nat} {xs ys:List α}
  (hsz:i.size=sz) (hby:0<i.bytes) (hz:(i.zero.map fun z=>z.cells.size)=some sz) (hfits:(xs.length+ys.length)*i.bytes≤140737488355328)
  {A:Option Addr} {sLen sCap:Nat} (hu:SLw el w K xs A sLen sCap) (hown:Own w K id sz A sLen sCap) {x:Value} {m:Nat} (y1:m=ys.length) {cy:List Value} (hS:Src P i.size tx x m cy w) (cy1:RL (el w K) ys cy) :
  ∃r w' K',(Builtin.append_ #[t,tx] ty #[.slice A sLen sCap,x]).run P w=.ok r w'∧Ext w K w' K'∧(∀b id' u,id'≠id→b<w.heap.size→K b=.row id' u→K' b=.row id' u∧w'.heap[b]?=w.heap[b]?) ∧
   (∀b id',b<w.heap.size→K b=.box id'→w'.heap[b]?=w.heap[b]?)∧(∀b,b<w'.heap.size→∀id',K' b=.box id'→b<w.heap.size∧K b=.box id') ∧
   ∃A' l' c',r=.slice A' l' c'∧SLw el w' K' (xs++ys) A' l' c'∧Own w' K' id sz A' l' c':=by
 obtain⟨x1,x2,x3,x4⟩:=hu
 obtain⟨z,hz0,hz1⟩:=Option.map_eq_some_iff.1 hz
 have hneed:sLen+m≤140737488355328:=by
  have:(sLen+m)*1≤(sLen+m)*i.bytes:=Nat.mul_le_mul_left _ hby
  rw[x1,y1] at this ⊢
  omega
 by_cases hm:m=0
 ·subst hm
  have hys:ys=[]:=List.length_eq_zero_iff.1 y1.symm
  subst hys
  have hcy:cy=[]:=cy1
  subst hcy
  exact⟨_,w,K,run_append_nothing t tx ty e i ht hi _ _ _ x2 _ hS,Ext.refl w K,(fun _ _ _ _ _ h=>⟨h,rfl⟩),(fun _ _ _ _=>rfl),(fun _ h _ h'=>⟨h,h'⟩),_,_,_,rfl,by rw[List.append_nil];exact⟨x1,x2,x3,x4⟩,hown⟩
 ·have hcl:cy.length=m*i.size:=hS.newsLen
  ·have hone:=RL.one (fun x c h=>hel1 w K x c h) ys cy cy1
   by_cases hroom:sLen+m≤sCap
   ·
    rcases hown with h |h |⟨b,hb,hsp,hk,arr,T,hh,hle⟩
    ·have:=x3 h;omega
    ·omega
    ·subst hb
     obtain⟨blk,off,sp⟩:=b
     simp only at hsp
     subst hsp
     simp only at hk hh hle
     have hlt:blk<w.heap.size:=by
      rcases Nat.lt_or_ge blk w.heap.size with h' |h'
      ·exact h'
      ·rw[Array.getElem?_eq_none h'] at hh;cases hh
     have hfit:off+sLen*i.size+cy.length≤arr.size:=by
      rw[hcl,hsz,Nat.add_assoc,←Nat.add_mul]
      have:=Nat.mul_le_mul_right sz hroom
      omega
     have hrun:=run_append_row (P:=P) t tx ty e i ht hi blk off sLen sCap arr T hh x m cy hS hroom hfit
     generalize hnew:(arr.toList.take (off+sLen*i.size)++cy++arr.toList.drop (off+sLen*i.size+cy.length)).toArray=arr' at hrun
     have hpre:∀j,j<off+sLen*sz→arr'[j]?=arr[j]?:=fun j hj=>by
      rw[←hsz] at hj
      rw[←hnew,List.getElem?_toArray,List.append_assoc,List.getElem?_append_left (by rw[List.length_take];have:=@Array.length_toList _ arr;omega),List.getElem?_take,if_pos hj]
      simp
     have hin:∀j v,cy[j]?=some v→arr'[off+sLen*sz+j]?=some v:=fun j v hj=>by
      have hjl:j<cy.length:=(List.getElem?_eq_some_iff.1 hj).1
      rw[←hnew,←hsz,List.getElem?_toArray,List.append_assoc,List.getElem?_append_right (by rw[List.length_take];have:=@Array.length_toList _ arr;omega)]
      rw[List.length_take,Nat.min_eq_left (by have:=@Array.length_toList _ arr;omega),Nat.add_sub_cancel_left,List.getElem?_append_left hjl]
      exact hj
     have hsize:arr'.size=arr.size:=by
      rw[←hnew]
      simp only[List.size_toArray,List.length_append,List.length_take,List.length_drop,Array.length_toList]
      omega
     have hheap:(w.setRow blk arr').heap[blk]?=some (.cells arr' T (0,0)):=setRow_heap w blk arr arr' T (0,0) hh
     have hoth:∀x,x≠blk→(w.setRow blk arr').heap[x]?=w.heap[x]?:=fun x hx=>setRow_other w blk x arr' hx
     have hext:Ext w K (w.setRow blk arr') (setK K blk (.row id (off+(sLen+m)*sz))):={
      os:=rfl
      tape:=rfl
      output:=rfl
      size:=Nat.le_of_eq (setRow_size w blk arr').symm
      fix:=fun x _ hkx=>by
       have hne:x≠blk:=fun e=>by subst e;rw[hk] at hkx;cases hkx
       exact⟨setK_other _ _ hne,hoth x hne⟩
      stab:=fun x o' _ hs=>by
       by_cases hne:x=blk
       ·subst hne
        unfold Stab at hs ⊢
        rw[hk] at hs
        rw[setK_same]
        replace hs:o' < off+sLen*sz:=hs
        refine⟨?_,?_⟩
        ·show o' < off+(sLen+m)*sz
         rw[Nat.add_mul];omega
        ·simp only[World.cell?,hheap,hh,Option.isSome_none,Bool.false_eq_true,if_false]
         exact hpre o' hs
       ·refine⟨?_,World.cell?_of_block (a:=⟨x,o',none⟩) (hoth x hne)⟩
        unfold Stab at hs ⊢
        rw[setK_other _ _ hne]
        exact hs
      box:=fun x id' _ hkx=>by
       have hne:x≠blk:=fun e=>by subst e;rw[hk] at hkx;cases hkx
       rw[setK_other _ _ hne];exact hkx
      bsz:=fun x id' n _ hkx hn=>by
       have hne:x≠blk:=fun e=>by subst e;rw[hk] at hkx;cases hkx
       obtain⟨cs,T,h1,h2⟩:=hn
       exact⟨cs,T,(hoth x hne).trans h1,h2⟩}
     refine⟨_,_,setK K blk (.row id (off+(sLen+m)*sz)),hrun,hext,?_,?_,?_,_,_,_,rfl,?_,?_⟩
     ·intro x id' u hne _ hkx
      have hne':x≠blk:=fun e=>by subst e;rw[hk] at hkx;injection hkx with h1;exact hne h1.symm
      exact⟨by rw[setK_other _ _ hne'];exact hkx,hoth x hne'⟩
     ·intro x id' _ hkx
      exact hoth x (fun e=>by subst e;rw[hk] at hkx;cases hkx)
     ·intro x hx id' hkx
      rw[setRow_size] at hx
      have hne:x≠blk:=fun e=>by subst e;rw[setK_same] at hkx;cases hkx
      rw[setK_other _ _ hne] at hkx
      exact⟨hx,hkx⟩
     ·obtain⟨cx,cx1,cx2⟩:=x4 _ rfl
      refine⟨by rw[List.length_append,←x1,←y1],hroom,(fun h=>by cases h),fun ad' had=>?_⟩
      ·cases had
       have g:=hext.stab
       refine⟨cx++cy,RL.append (RL.imp (hext' hext) xs cx cx1) (RL.imp (hext' hext) ys cy cy1),?_⟩
       have hcxl:cx.length=sLen*sz:=by rw[RL.length (fun x c h=>hell w K x c h) xs cx cx1,x1]
       intro j v hj
       by_cases hlt':j<cx.length
       ·rw[List.getElem?_append_left hlt'] at hj
        exact(cx2.ext g) j v hj
       ·rw[List.getElem?_append_right (by omega)] at hj
        have hjl:j-cx.length<cy.length:=(List.getElem?_eq_some_iff.1 hj).1
        have:=hin _ _ hj
        refine⟨rfl,?_,?_⟩
        ·simp only[World.cell?,hheap,Option.isSome_none,Bool.false_eq_true,if_false]
         rw[←this]
         congr 1
         omega
        ·unfold Stab
         rw[setK_same]
         show off+j<off+(sLen+m)*sz
         rw[Nat.add_mul]
         rw[hsz] at hcl
         omega
     ·exact .inr (.inr ⟨_,rfl,rfl,setK_same _ _ _,arr',T,hheap,by rw[hsize];exact hle⟩)
   ·
    have hgrow:sCap<sLen+m:=by omega
    have h48:=growslice_fits (bytes:=i.bytes) hgrow (by rw[x1,y1];exact hfits)
    have grown:∀cx:List Value,RL (el w K) xs cx→∀(rest:Array Value),rest.size=(grownCap w (sLen+m) sCap e-(sLen+m))*sz →
      (Builtin.append_ #[t,tx] ty #[.slice A sLen sCap,x]).run P w=.ok (.slice (some ⟨w.heap.size,0,none⟩) (sLen+m) (grownCap w (sLen+m) sCap e)) (w.drew.alloc (.cells ((cx++cy).toArray++rest) e)) →
      ∃r w' K',(Builtin.append_ #[t,tx] ty #[.slice A sLen sCap,x]).run P w=.ok r w'∧Ext w K w' K'∧(∀b id' u,id'≠id→b<w.heap.size→K b=.row id' u→K' b=.row id' u∧w'.heap[b]?=w.heap[b]?) ∧
   (∀b id',b<w.heap.size→K b=.box id'→w'.heap[b]?=w.heap[b]?)∧(∀b,b<w'.heap.size→∀id',K' b=.box id'→b<w.heap.size∧K b=.box id') ∧
   ∃A' l' c',r=.slice A' l' c'∧SLw el w' K' (xs++ys) A' l' c'∧Own w' K' id sz A' l' c':=by
     intro cx cx1 rest hrest hrun
     have hst:Still w K (w.drew.alloc (.cells ((cx++cy).toArray++rest) e)) (setK K w.heap.size (.row id ((sLen+m)*sz))):=Still.alloc w K _ _ _ _ 1
     have hcxl:cx.length=sLen*sz:=by rw[RL.length (fun x c h=>hell w K x c h) xs cx cx1,x1]
     have hlen:(cx++cy).length=(sLen+m)*sz:=by rw[List.length_append,hcxl,hcl,hsz,Nat.add_mul]
     have hge:=grownCap_ge w (sLen+m) sCap e
     refine⟨_,_,_,hrun,hst.ext,(fun b id' u _ hb hkb=>hst.rows b id' u hb hkb),hst.boxes,hst.fresh,_,_,_,rfl,⟨by rw[List.length_append,←x1,←y1],hge,(fun h=>by cases h),fun ad' had=>?_⟩,?_⟩
     ·cases had
      refine⟨cx++cy,RL.append (RL.imp (hext' hst.ext) xs cx cx1) (RL.imp (hext' hst.ext) ys cy cy1),?_⟩
      exact At.new w K (cx++cy) rest e (0,0) id _ 1 (by rw[hlen];exact Nat.le_refl _)
     ·refine .inr (.inr ⟨_,rfl,rfl,?_,_,e,heap_new w.drew _,?_⟩)
      ·show setK K w.heap.size _ w.heap.size=_
       rw[setK_same,Nat.zero_add]
      ·show 0+grownCap w (sLen+m) sCap e*sz≤((cx++cy).toArray++rest).size
       rw[Array.size_append,show(cx++cy).toArray.size=(sLen+m)*sz by rw[←hlen];simp,hrest,Nat.zero_add,←Nat.add_mul]
       apply Nat.le_of_eq
       congr 1
       omega
    have hzs:∀k,(Builtin.zeroCells z.cells k).size=k*sz:=fun k=>by rw[size_zeroCells,hz1]
    have h63:((sLen+m:Nat):Int)≤9223372036854775807:=by omega
    cases A with
    |none =>
     have h0:=x3 rfl
     subst h0
     have h1:sLen=0:=by omega
     subst h1
     have hxs:xs=[]:=List.length_eq_zero_iff.1 x1.symm
     subst hxs
     have hrun:=run_append_grow_src (P:=P) w t tx ty e i z ht hi hz0 none 0 0 [] (run_firstCells_none w.drew i.size 0 0 0) x m cy hS hgrow h63 h48
     refine grown [] rfl (Builtin.zeroCells z.cells (grownCap w (0+m) 0 e-(0+m))) (hzs _) ?_
     exact hrun
    |some b =>
     obtain⟨cx,cx1,cx2⟩:=x4 b rfl
     have hcxl:cx.length=sLen*i.size:=by rw[RL.length (fun x c h=>hell w K x c h) xs cx cx1,x1,hsz]
     have hrun:=run_append_grow_src (P:=P) w t tx ty e i z ht hi hz0 (some b) sLen sCap cx (run_firstCells_some w.drew i.size sLen b sLen sCap cx hcxl (by simpa using fun j v hj=>cx2.cell j v hj)) x m cy hS hgrow h63 h48
     exact grown cx cx1 (Builtin.zeroCells z.cells (grownCap w (sLen+m) sCap e-(sLen+m))) (hzs _) hrun
theorem append_src_ok (hr:Rel fr n K s a w) {d:Option Nat} (hd:∀t,d=some t→t<n) {t tx ty e:TypeId} {i:TypeInfo} (ht:P.underlying t=some (.slice e)) (hi:P.info? e=some i) {τ:Ty} {id:Nat} {xs ys:List τ.den}
  (hsz:i.size=τ.size) (hby:0<i.bytes) (hz:(i.zero.map fun z=>z.cells.size)=some τ.size) (hfits:(xs.length+ys.length)*i.bytes≤140737488355328)
  {u x:Value} (hu:RV w K ⟨.osl id τ,xs⟩ u) {m:Nat} (y1:m=ys.length) {cy:List Value} (hS:Src P i.size tx x m cy w) (cy1:RL (RT w K τ) ys cy) :
  ∃r w' K',(Builtin.append_ #[t,tx] ty #[u,x]).run P w=.ok r w'∧Rel fr n K' (s.apply d (.app id ⟨.osl id τ,xs++ys⟩)) (a.put d r) w':=by
 obtain⟨A,sLen,sCap,rfl,hx,hown⟩:=RV.osl hu
 obtain⟨A',len',cap',he,hx⟩:=hx
 injection he with he _
 injection he with q1 q2 q3
 subst q1 q2 q3
 obtain⟨r,w',K',g1,g2,g3,g4,g5,A2,l2,c2,rfl,g6,g7⟩:=append_gen (ty:=ty) (fun w K x c=>RT.length τ x c) (fun w K x c=>RT.one τ x c) (fun g x c=>RT.ext g.stab τ x c) ht hi hsz hby hz hfits hx hown y1 hS cy1
 refine⟨_,w',K',g1,hr.app hd g2 g3 g4 g5 ⟨⟨⟨_,_,_,rfl,g6⟩,fun A3 l3 c3 hc=>?_⟩,(fun e=>(by cases e)),(fun _ c e=>(by cases e))⟩⟩
 injection hc with hc _
 injection hc with q1 q2 q3
 subst q1 q2 q3
 exact g7
theorem RWin.length {id:Nat} {e:Ty} {x:Nat×Nat} {c:List Value}:RWin w K id e x c→c.length=1
 |⟨_,_,_,h,_⟩=>by rw[h];rfl
theorem RWin.one {id:Nat} {e:Ty} {x:Nat×Nat} {c:List Value}:RWin w K id e x c→∀v∈c,v.oneCell'=true
 |⟨_,_,_,h,_⟩,v,hv=>by rw[h] at hv;simp at hv;subst hv;rfl
theorem append_wsl_ok (hr:Rel fr n K s a w) {d:Option Nat} (hd:∀t,d=some t→t<n) {t ty e:TypeId} {i:TypeInfo} (ht:P.underlying t=some (.slice e)) (hi:P.info? e=some i) {id bx:Nat} {τ:Ty} {xs ys:List (Nat×Nat)}
  (hsz:i.size=1) (hby:0<i.bytes) (hz:(i.zero.map fun z=>z.cells.size)=some 1) (hfits:(xs.length+ys.length)*i.bytes≤140737488355328)
  {u v:Value} {A:Option Addr} {l k:Nat} (hu:u=.slice A l k) (hx:RWsl w K bx τ xs [u]) (hown:Own w K id 1 A l k) (hv:RWsl w K bx τ ys [v]) :
  ∃r w' K',(Builtin.append_ #[t,t] ty #[u,v]).run P w=.ok r w'∧Rel fr n K' (s.apply d (.app id ⟨.wsl (some id) bx τ,xs++ys⟩)) (a.put d r) w':=by
 subst hu
 obtain⟨A',len',cap',he,hx⟩:=hx
 injection he with he _
 injection he with q1 q2 q3
 subst q1 q2 q3
 obtain⟨B,m,c,he,y1,y2,y3,y4⟩:=hv
 injection he with he _
 subst he
 have fin:∀{cy:List Value},Src P i.size t (.slice B m c) m cy w→RL (RWin w K bx τ) ys cy →
   ∃r w' K',(Builtin.append_ #[t,t] ty #[.slice A l k,.slice B m c]).run P w=.ok r w'∧Rel fr n K' (s.apply d (.app id ⟨.wsl (some id) bx τ,xs++ys⟩)) (a.put d r) w':=fun hS cy1=>by
  obtain⟨r,w',K',g1,g2,g3,g4,g5,A2,l2,c2,rfl,g6,g7⟩:=append_gen (ty:=ty) (el:=fun w K=>RWin w K bx τ) (fun w K x c h=>RWin.length h) (fun w K x c h=>RWin.one h) (fun g x c h=>RWin.ext g.size (fun b hb hk=>⟨g.box b _ hb hk,fun n hn=>g.bsz b _ n hb hk hn⟩) h) ht hi hsz hby hz hfits hx hown y1 hS cy1
  refine⟨_,w',K',g1,hr.app hd g2 g3 g4 g5 ⟨⟨⟨_,_,_,rfl,g6⟩,fun t A3 l3 c3 ht hc=>?_⟩,(fun e=>(by cases e)),(fun _ c e=>(by cases e))⟩⟩
  cases ht
  injection hc with hc _
  injection hc with q1 q2 q3
  subst q1 q2 q3
  exact g7
 cases B with
 |none =>
  have h0:=y3 rfl
  have hm:m=0:=by omega
  subst hm
  have hys:ys=[]:=List.length_eq_zero_iff.1 y1.symm
  subst hys
  exact fin (Src.ofNil w ht c) rfl
 |some ad =>
  obtain⟨cy,cy1,cy2⟩:=y4 ad rfl
  have hcl:cy.length=m*i.size:=by rw[RL.length (fun x c h=>RWin.length h) ys cy cy1,y1,hsz]
  exact fin (Src.ofSlice w ht ad m c cy hcl (fun j u hj=>cy2.cell j u hj) (RL.one (fun x c h=>RWin.one h) ys cy cy1)) cy1
theorem append_ok (hr:Rel fr n K s a w) {d:Option Nat} (hd:∀t,d=some t→t<n) {t ty e:TypeId} {i:TypeInfo} (ht:P.underlying t=some (.slice e)) (hi:P.info? e=some i) {τ:Ty} {id:Nat} {xs ys:List τ.den}
  (hsz:i.size=τ.size) (hby:0<i.bytes) (hz:(i.zero.map fun z=>z.cells.size)=some τ.size) (hfits:(xs.length+ys.length)*i.bytes≤140737488355328)
  {u v:Value} (hu:RV w K ⟨.osl id τ,xs⟩ u) (hvm:v=mkV false v.cells.toList) (hv:RT w K (.sl τ) ys v.cells.toList) :
  ∃r w' K',(Builtin.append_ #[t,t] ty #[u,v]).run P w=.ok r w'∧Rel fr n K' (s.apply d (.app id ⟨.osl id τ,xs++ys⟩)) (a.put d r) w':=by
 obtain⟨B,m,c,hvc,y1,y2,y3,y4⟩:=hv
 have hv:v=.slice B m c:=by rw[hvm,hvc];rfl
 subst hv
 cases B with
 |none =>
  have h0:=y3 rfl
  have hm:m=0:=by omega
  subst hm
  have hys:ys=[]:=List.length_eq_zero_iff.1 y1.symm
  subst hys
  exact append_src_ok hr hd ht hi hsz hby hz hfits hu y1 (Src.ofNil w ht c) rfl
 |some ad =>
  obtain⟨cy,cy1,cy2⟩:=y4 ad rfl
  have hcl:cy.length=m*i.size:=by rw[RL.length (RT.length τ) ys cy cy1,y1,hsz]
  exact append_src_ok hr hd ht hi hsz hby hz hfits hu y1 (Src.ofSlice w ht ad m c cy hcl (fun j u hj=>cy2.cell j u hj) (RL.one (RT.one τ) ys cy cy1)) cy1
theorem bytes_RL (s:List UInt8):RL (RT w K (.int .u8)) (s.map fun b=>(b.toNat:Int)) (byteCells ⟨⟨s⟩⟩):=by
 unfold byteCells
 simp only
 induction s with
 |nil=>rfl
 |cons b s ih=>exact⟨[_],_,rfl,rfl,ih⟩
theorem append_str_ok (hr:Rel fr n K s a w) {d:Option Nat} (hd:∀t,d=some t→t<n) {t tx ty e:TypeId} {i:TypeInfo} (ht:P.underlying t=some (.slice e)) (htx:P.underlying tx=some .string) (hi:P.info? e=some i) {id:Nat} {xs:List Int} {b:List UInt8}
  (hsz:i.size=1) (hby:0<i.bytes) (hz:(i.zero.map fun z=>z.cells.size)=some 1) (hfits:(xs.length+b.length)*i.bytes≤140737488355328)
  {u v:Value} (hu:RV w K ⟨.osl id (.int .u8),xs⟩ u) (hv:RV w K ⟨.ty .str,b⟩ v) :
  ∃r w' K',(Builtin.append_ #[t,tx] ty #[u,v]).run P w=.ok r w'∧Rel fr n K' (s.apply d (.app id ⟨.osl id (.int .u8),xs++b.map fun b=>(b.toNat:Int)⟩)) (a.put d r) w':=by
 have hv:=RV.str hv
 subst hv
 have hS:Src P i.size tx (.string ⟨⟨b⟩⟩) b.length (byteCells ⟨⟨b⟩⟩) w:=by rw[hsz];exact Src.ofString w htx ⟨⟨b⟩⟩
 exact append_src_ok (τ:=.int .u8) hr hd ht hi hsz hby hz (by rw[List.length_map];exact hfits) hu (by rw[List.length_map]) hS (bytes_RL b)
theorem wslOf_ok {b:Nat} {τ:Ty} {x:AV} {tg:Nat} {xs:List (Nat×Nat)} (h:wslOf b τ x=some (tg,xs)) {u:Value} (hu:RV w K x u):∃A l k,u=.slice A l k∧RWsl w K b τ xs [.slice A l k]∧Own w K tg 1 A l k:=by
 unfold wslOf at h
 split at h
 ·split at h
  ·rename_i hb
   split at h
   ·rename_i he _
    subst hb
    subst he
    cases h
    obtain⟨A,l,k,h1,h2,h3⟩:=RV.wsl hu
    exact⟨A,l,k,h1,h2,h3 _ rfl⟩
   ·cases h
  ·cases h
 ·split at h
  ·cases h
   obtain⟨A,l,k,h1,⟨A',l',k',he,x1,x2,x3,x4⟩,h3⟩:=RV.osl hu
   injection he with he _
   injection he with q1 q2 q3
   subst q1 q2 q3
   refine⟨A,l,k,h1,⟨A,l,k,rfl,x1,x2,x3,fun ad had=>?_⟩,h3⟩
   obtain⟨cc,c1,c2⟩:=x4 ad had
   cases (show cc=[] from c1)
   exact⟨[],rfl,c2⟩
  ·cases h
 ·cases h
end
end Go.Av
end
