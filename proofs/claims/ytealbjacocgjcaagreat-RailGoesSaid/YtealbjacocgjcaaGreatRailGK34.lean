/- Texts of the proof, one behind the other. -/
import Derived.Test.YtealbjacocgjcaaGreatRailGK33
import Derived.Test.YtealbjacocgjcaaGreatRailGK32
import Derived.Test.YtealbjacocgjcaaGreatRailGK31
section
namespace Go.Av
open Go
section
variable {E:Env} {mo mr q:Nat} (H:HandAt E mo mr) (Q:QEnd E q) (hq:E.P[q+6]?=some (.op (insI 2 0 0 0 0 0 0)))
include H
include Q
include hq
end
end Go.Av
end
section
namespace Go.Av
open Go
theorem go_rest {E:Env} {a b j j' jt:Nat} {s s' st:IS} (h:GoTo E (a+b) 0 j s j' s') (h1:GoTo E a 0 j s jt st):GoTo E b 0 jt st j' s':=by
 unfold GoTo at *
 rw[goN_add,h1] at h
 dsimp only at h
 generalize goN E b (false,jt,st)=q at h ⊢
 obtain⟨k,c,r⟩:=q
 injection h with h1 h2
 injection h2 with h2 h3
 dsimp only at h1 h2 h3
 rw[h3,show k=b by omega,show c=0 by omega]
theorem SameOut.refl (W:Nat→Nat):SameOut W W:=fun _ _=>rfl
theorem SameOut.trans {W W' W'':Nat→Nat} (h:SameOut W W') (h':SameOut W' W''):SameOut W W'':=fun a ha=>by rw[h' a ha,h a ha]
section
variable (I mo mr n:Nat)
variable {I mo mr n}
variable (hs:SzOk (4*mo) (4*mr) n) (hI:I+mo≤mr)
include hs
include hI
variable (X W:Nat→Nat) (hX:∀t,t<mo→W (537133056+4*(I+t))=X t∧W (537395200+4*(I+t))=X t)
include hX
end
end Go.Av
end
section
namespace Go.Av
open Go
end Go.Av
end
section
namespace Go.Av
open Go
end Go.Av
end
section
namespace Go.Av
open Go
end Go.Av
end
section
namespace Go.Av
open Go
def dblP:PI→PI
 | .op i=>.op i
 | .br o c t=>.br o c (2*t)
end Go.Av
end
section
namespace Go.Av
open Go
end Go.Av
end
section
namespace Go.Av
open Go
end Go.Av
end
section
namespace Go.Av
open Go
def twI (i:tIns.den):Bool :=
 bif i.1==2 then true else bif i.1==3 then true else bif i.1==4 then true else bif i.1==5 then i.2.1 != i.2.2.2.1
 else bif i.1==14 then i.2.1 != i.2.2.1&&i.2.1 != i.2.2.2.1 else bif i.1==18 then i.2.1 != i.2.2.1&&(i.2.2.2.2.1==16&&i.2.2.2.2.2.1==0)
 else bif i.1==19 then i.2.1 != i.2.2.1 else i.1==20||i.1==23
structure Dbl (E E2:Env):Prop where
 p0:∀j:Nat,E2.P[2*j]?=(E.P[j]?).map dblP
 p1:∀j:Nat,E2.P[2*j+1]?=(E.P[j]?).map dblP
 o:E2.o=E.o
 r:E2.r=E.r
 n:E2.n=E.n
 h:E2.h=2*E.h
 safe:∀(j:Nat) (i:tIns.den),E.P[j]?=some (PI.op i)→twI i=true
section
variable {E E2:Env} (D:Dbl E E2)
include D
omit D in
theorem goN_one {E:Env} {b:Bool} {j j1:Nat} {s s1:IS} (h:stepI E false j s=(b,j1,s1)):∃c,goN E 1 (false,j,s)=(1,c,b,j1,s1):=by
 refine⟨bif j==E.h then 1 else 0,?_⟩
 show((goN E 0 (stepI E false j s)).1+1,(bif j==E.h then 1 else 0)+(goN E 0 (stepI E false j s)).2.1,(goN E 0 (stepI E false j s)).2.2)=_
 rw[h]
 rfl
omit D in
theorem goN_then {E:Env} {k c k' c':Nat} {q r r':IO3} (h:goN E k q=(k,c,r)) (h':goN E k' r=(k',c',r')):goN E (k+k') q=(k+k',c+c',r'):=by
 rw[goN_add,h,h']
end
end Go.Av
end
section
namespace Go.Av
open Go
def labPos (it:List tItem.den):Nat→List (Int×Nat)
 |0=>[]
 |n+1=>bif (itemAt it n).1==1 then labPos it n++[((itemAt it n).2.1,cntI it n)] else labPos it n
theorem places_pos {it:List tItem.den} {ws:List Bool} (h:∀i,i≤it.length→adrI it 64 ws (cntI it i)=posI it 64 ws i):∀n,n≤it.length→placesTo it 64 ws n=(labPos it n).map fun p=>(p.1,adrI it 64 ws p.2,())
 |0,_=>rfl
 |n+1,hn=>by
  have ih:=places_pos h n (by omega)
  rw[placesTo,labPos,ih]
  cases ((itemAt it n).1==(1:Int))
  ·rfl
  ·simp only[cond_true,List.map_append,List.map_cons,List.map_nil]
   rw[h n (by omega)]
def scanJ (j:Nat):List (Int×Nat)→Int
 |[]=>-1
 |p::l=>bif decide (p.1<3)&&(j==p.2||j==p.2+1) then p.1 else scanJ j l
theorem scan_num {hd:tHead.den} {fl:List UInt8} {E:Env} {adr:Nat→Int} (hp:PrgOk hd fl E adr) {j:Nat} (hj:j≤E.P.length):∀l:List (Int×Nat),(∀p∈l,p.1<3→∃n,E.P[p.2]?=some (.op (insI 2 0 0 0 0 n 0)))→scanP 3 (adr j) (l.map fun p=>(p.1,adr p.2,()))=scanJ j l
 |[],_=>rfl
 |p::l,h=>by
  have ih:=scan_num hp hj l (fun q hq=>h q (List.mem_cons_of_mem _ hq))
  rw[List.map_cons,scanP,scanJ,ih]
  have e:hereP 3 (adr j) (p.1,adr p.2,())=(decide (p.1<3)&&(j==p.2||j==p.2+1)):=by
   unfold hereP
   cases hd3:decide (p.1<3)
   ·rfl
   ·obtain⟨n,hn⟩:=h p (List.mem_cons_self ..) (of_decide_eq_true hd3)
    have hlt:p.2<E.P.length:=by
     rcases Nat.lt_or_ge p.2 E.P.length with h |h
     ·exact h
     ·rw[List.getElem?_eq_none h] at hn
      cases hn
    obtain⟨_,_,h3⟩:=hp.op p.2 _ hn
    have h3:adr (p.2+1)=adr p.2+2:=h3
    have r:=hp.rng p.2 (by omega)
    have hw:w64 (adr p.2+2)=adr (p.2+1):=by rw[h3,w64_id (by omega) (by omega)]
    show(true&&(adr j==adr p.2||adr j==w64 (adr p.2+2)))=_
    rw[hw,adr_inj hp hj (by omega),adr_inj hp hj (by omega)]
  rw[e]
def setI (off a b:Int):List tIns.den:=[insI 3 3 0 0 0 (lo false a) 0,insI 4 3 0 0 0 (hi false a) 0,insI 3 7 0 0 0 off 0,insI 4 7 0 0 0 8196 0,insI 20 3 7 0 0 0 0,
 insI 3 3 0 0 0 (lo false b) 0,insI 4 3 0 0 0 (hi false b) 0,insI 3 7 0 0 0 off 0,insI 4 7 0 0 0 8200 0,insI 20 3 7 0 0 0 0]
theorem set_opK (off a b:Int) (h:off=0∨off=4):∀i∈setI off a b,opK i=true:=by
 intro i hi
 simp only[setI,List.mem_cons,List.not_mem_nil,or_false] at hi
 have h1:opK (insI 3 7 0 0 0 off 0)=true:=by rcases h with rfl |rfl<;>rfl
 rcases hi with rfl |rfl |rfl |rfl |rfl |rfl |rfl |rfl |rfl |rfl
 ·exact opK_lo 3 _ (by omega)
 ·exact opK_hi 3 _ (by omega)
 ·exact h1
 ·rfl
 ·rfl
 ·exact opK_lo 3 _ (by omega)
 ·exact opK_hi 3 _ (by omega)
 ·exact h1
 ·rfl
 ·rfl
theorem set_one (E:Env) (x:Nat) (a:Int) (s:IS) (rest:List tIns.den) (hw:E.okW x=true) (hx:x<4294967296):∃ρ',execL E ([insI 3 3 0 0 0 (lo false a) 0,insI 4 3 0 0 0 (hi false a) 0]++([insI 3 7 0 0 0 (lo false (x:Int)) 0,insI 4 7 0 0 0 (hi false (x:Int)) 0]++([insI 20 3 7 0 0 0 0]++rest))) s=execL E rest (ρ',s.2.1,updW s.2.2 x (wn a)):=by
 obtain⟨ρ1,e1,v1,k1⟩:=word_at E 3 a s
 obtain⟨ρ2,e2,v2,k2⟩:=word_at E 7 (x:Int) (ρ1,s.2)
 refine⟨ρ2,?_⟩
 rw[execL_app,e1]
 show execL E (_++_) (ρ1,s.2)=_
 rw[execL_app,e2]
 show execL E (_++_) (ρ2,s.2)=_
 have h7:ρ2 7=x:=by rw[v2];exact wn_nat hx
 have h3:ρ2 3=wn a:=by
  rw[k2 3 (by decide)]
  exact v1
 show((bif E.okW (ρ2 7) then some (ρ2,s.2.1,updW s.2.2 (ρ2 7) (ρ2 3)) else none):Option IS).bind (execL E rest)=_
 rw[h7,hw,h3]
 rfl
theorem set_exec (E:Env) (off:Nat) (a b:Int) (s:IS) (ho:off=0∨off=4) (h1:E.okW (537133056+off)=true) (h2:E.okW (537395200+off)=true):∃ρ',execL E (setI (off:Int) a b) s=some (ρ',s.2.1,updW (updW s.2.2 (537133056+off) (wn a)) (537395200+off) (wn b)):=by
 obtain⟨ρ1,e1⟩:=set_one E (537133056+off) a s ([insI 3 3 0 0 0 (lo false b) 0,insI 4 3 0 0 0 (hi false b) 0]++([insI 3 7 0 0 0 (lo false ((537395200+off:Nat):Int)) 0,insI 4 7 0 0 0 (hi false ((537395200+off:Nat):Int)) 0]++([insI 20 3 7 0 0 0 0]++[]))) h1 (by omega)
 obtain⟨ρ2,e2⟩:=set_one E (537395200+off) b (ρ1,s.2.1,updW s.2.2 (537133056+off) (wn a)) [] h2 (by omega)
 refine⟨ρ2,?_⟩
 rw[e2] at e1
 have e:setI (off:Int) a b=[insI 3 3 0 0 0 (lo false a) 0,insI 4 3 0 0 0 (hi false a) 0]++([insI 3 7 0 0 0 (lo false ((537133056+off:Nat):Int)) 0,insI 4 7 0 0 0 (hi false ((537133056+off:Nat):Int)) 0]++([insI 20 3 7 0 0 0 0]++([insI 3 3 0 0 0 (lo false b) 0,insI 4 3 0 0 0 (hi false b) 0]++([insI 3 7 0 0 0 (lo false ((537395200+off:Nat):Int)) 0,insI 4 7 0 0 0 (hi false ((537395200+off:Nat):Int)) 0]++([insI 20 3 7 0 0 0 0]++[]))))):=by
  rcases ho with rfl |rfl<;>rfl
 rw[e]
 exact e1
structure WOk (H:List tItem.den):Prop where
 all:H.all (jOk (labsL H))=true
 nodup:(labsL H).Nodup
 lab:(2:Int)∈labsL H
 cnt:cntL 2 H<(stripL (fun l=>cntL l H) H).length
 len:H.length≤200
def whereE (H:List tItem.den) (n:Nat):Env:=⟨stripL (fun l=>cntL l H) H,0,64,n,cntL 2 H⟩
theorem where_part {off:Nat} (a b:Int) (ho:off=0∨off=4) {H:List tItem.den} (hH:WOk H) {L:List (Int×Nat)} (hL:labPos (its (setI (off:Int) a b)++H) (its (setI (off:Int) a b)++H).length=L.map fun p=>(p.1,10+p.2)) (hB:∀p∈L,p.1<3→∃n,(stripL (fun l=>cntL l H) H)[p.2]?=some (.op (insI 2 0 0 0 0 n 0))) :
  ∃(n:Nat) (s1:IS),SzOk 0 64 n∧s1.2.2 (537133056+off)=wn a∧s1.2.2 (537395200+off)=wn b ∧
   ∀f,qp f=0→(10≤(show Int from f.2.1)∨f=noFault)→qP (its (setI (off:Int) a b)++H,f,3)=true ∧
    qu (its (setI (off:Int) a b)++H,f,3)=bif (goI (whereE H n) f 390 10 (false,0,s1)).2.2.1 then scanJ (goI (whereE H n) f 390 10 (false,0,s1)).2.2.2.1 L else -1:=by
 have hpre:=set_opK (off:Int) a b (by omega)
 have hlen:(setI (off:Int) a b).length=10:=rfl
 have hil:(its (setI (off:Int) a b)).length=10:=rfl
 generalize hpr:setI (off:Int) a b=pre at *
 have hI:ItOk (its pre++H):=itok_pre hpre hH.all hH.nodup (by have:=hH.len;omega)
 have hl:(2:Int)∈labsL (its pre++H):=by rw[labsL_pre];exact hH.lab
 obtain⟨k,k1,k2⟩:=labs_mem.1 hl
 have hk:cntI (its pre++H) k=10+cntL 2 H:=by
  rw[cnt_lab 2 _ k k1 k2 (fun i hi=>by
   cases e:isLab (its pre++H) 2 i
   ·rfl
   ·have:=labs_uniq hI.nodup (by omega) k1 e k2
    omega)]
  rw[cntL_pre 2 (its pre) H (fun j hj=>by
   obtain⟨i,_,rfl⟩:=List.mem_map.1 hj
   rfl),hil]
 have hst:stripL (fun l=>cntL l (its pre++H)) (its pre++H)=(List.map (fun j:tItem.den=>PI.op j.2.2.1) (its pre))++(stripL (fun l=>cntL l H) H).map (shiftP 10):=by
  have e:(fun l=>cntL l (its pre++H))=fun l=>10+cntL l H:=funext fun l=>by
   rw[cntL_pre l (its pre) H (fun j hj=>by
    obtain⟨i,_,rfl⟩:=List.mem_map.1 hj
    rfl),hil]
  rw[e,strip_pre _ _ _ (its_kind0 pre),strip_shift]
 have hcn:cntI (its pre++H) k<cntI (its pre++H) (its pre++H).length:=by
  rw[hk,←prg_len,prg_strip hI,hst,List.length_append,List.length_map,List.length_map,hil]
  have:=hH.cnt
  omega
 obtain⟨ws,img,hd,hprg,hadr,hrun⟩:=where_run hI k1 k2 hcn
 have hs:SzOk 0 64 img.length:=hprg.sz
 have hw1:Env.okW ⟨prgTo (its pre++H) (its pre++H).length,0,64,img.length,cntI (its pre++H) k⟩ (537133056+off)=true:=by
  show(regW 0 64 (537133056+off)).isSome=true
  rcases ho with rfl |rfl<;>rfl
 have hw2:Env.okW ⟨prgTo (its pre++H) (its pre++H).length,0,64,img.length,cntI (its pre++H) k⟩ (537395200+off)=true:=by
  show(regW 0 64 (537395200+off)).isSome=true
  rcases ho with rfl |rfl<;>rfl
 obtain⟨ρ1,e1⟩:=set_exec ⟨prgTo (its pre++H) (its pre++H).length,0,64,img.length,cntI (its pre++H) k⟩ off a b (beginS 0 64 img.length img) ho hw1 hw2
 rw[hpr] at e1
 refine⟨img.length,(ρ1,(beginS 0 64 img.length img).2.1,updW (updW (beginS 0 64 img.length img).2.2 (537133056+off) (wn a)) (537395200+off) (wn b)),hs,?_,?_,fun f hf hfs=>?_⟩
 ·show updW (updW _ (537133056+off) (wn a)) (537395200+off) (wn b) (537133056+off)=_
  rw[updW_other _ _ (by omega),updW_same]
 ·show updW (updW _ (537133056+off) (wn a)) (537395200+off) (wn b) (537395200+off)=_
  rw[updW_same]
 ·obtain⟨hin,hG,hV⟩:=hrun f hf
  refine⟨hG,?_⟩
  rw[hV,places_pos hadr _ (Nat.le_refl _),hL]
  have hpart:=part_of hI (its_kind0 pre) 0 64 img.length (cntL 2 H)
  rw[hil,←hk] at hpart
  have hpart:Part ⟨prgTo (its pre++H) (its pre++H).length,0,64,img.length,cntI (its pre++H) k⟩ (whereE H img.length) 10:=hpart
  have hgo:=execL_go (E:=⟨prgTo (its pre++H) (its pre++H).length,0,64,img.length,cntI (its pre++H) k⟩) pre 0 _ _ (fun i hi=>by
   show(prgTo (its pre++H) (its pre++H).length)[0+i]?=_
   rw[Nat.zero_add,prg_strip hI,hst,List.getElem?_append_left (by rw[List.length_map,hil];omega),List.getElem?_map]
   unfold its
   rw[List.getElem?_map]
   cases pre[i]?<;>rfl) (fun i hi=>by
   show 0+i≠cntI (its pre++H) k
   rw[hk]
   omega) e1
  rw[hlen] at hgo
  generalize hs1:(ρ1,(beginS 0 64 img.length img).2.1,updW (updW (beginS 0 64 img.length img).2.2 (537133056+off) (wn a)) (537395200+off) (wn b))=s1 at *
  have key:goI ⟨prgTo (its pre++H) (its pre++H).length,0,64,img.length,cntI (its pre++H) k⟩ f 400 0 (false,0,beginS 0 64 img.length img) =
    (10+(goI (whereE H img.length) f 390 10 (false,0,s1)).1,(goI (whereE H img.length) f 390 10 (false,0,s1)).2.1,shiftO 10 (goI (whereE H img.length) f 390 10 (false,0,s1)).2.2):=by
   have hg:goN ⟨prgTo (its pre++H) (its pre++H).length,0,64,img.length,cntI (its pre++H) k⟩ 10 (false,0,beginS 0 64 img.length img)=(10,0,false,10+0,s1):=by
    have:=hgo
    unfold GoTo at this
    rw[this]
   rcases hfs with hfs |rfl
   ·rw[show(400:Nat)=10+390 by rfl,goI_split _ f 390 10 0 _ (by omega),hg]
    dsimp only
    have:=part_goI hpart f 390 (0+((10:Nat):Int)) false 0 s1
    rw[this,Int.zero_add]
    simp
   ·rw[goI_none,goI_none,show(400:Nat)=10+390 by rfl,goN_add,hg]
    dsimp only
    rw[part_go hpart 390 false 0 s1,Nat.zero_add]
  have hsc:=scan_num hprg hin (L.map fun p=>(p.1,10+p.2)) (fun p hp hp3=>by
   obtain⟨q,hq,rfl⟩:=List.mem_map.1 hp
   obtain⟨n,hn⟩:=hB q hq hp3
   refine⟨n,?_⟩
   have:=hpart.prg q.2
   show(prgTo (its pre++H) (its pre++H).length)[10+q.2]?=_
   rw[this]
   show((stripL (fun l=>cntL l H) H)[q.2]?).map (shiftP 10)=_
   rw[hn]
   rfl)
  rw[hsc,key]
  show(bif (goI (whereE H img.length) f 390 10 (false,0,s1)).2.2.1 then scanJ (10+(goI (whereE H img.length) f 390 10 (false,0,s1)).2.2.2.1) _ else -1)=_
  have hsh:∀(j:Nat) (L:List (Int×Nat)),scanJ (10+j) (L.map fun p=>(p.1,10+p.2))=scanJ j L:=fun j L=>by
   induction L with
   |nil=>rfl
   |cons p L ih =>
    rw[List.map_cons,scanJ,scanJ,ih]
    have e1:(10+j==10+p.2)=(j==p.2):=Bool.eq_iff_iff.2 (by rw[beq_iff_eq,beq_iff_eq];omega)
    have e2:(10+j==10+p.2+1)=(j==p.2+1):=Bool.eq_iff_iff.2 (by rw[beq_iff_eq,beq_iff_eq];omega)
    dsimp only
    rw[e1,e2]
  rw[hsh]
end Go.Av
end
section
namespace Go.Av
open Go
def isBk (E:Env) (j:Nat):Bool:=match E.P[j]? with
 |some (.op i)=>i.1==2
 |_=>false
theorem bk_step {E:Env} {j:Nat} (h:isBk E j=true) (s:IS):stepI E false j s=(true,j,s)∧stepI E true j s=(false,j+1,s):=by
 unfold isBk at h
 cases hp:E.P[j]? with
 |none=>rw[hp] at h;cases h
 |some p =>
  cases p with
  |op i =>
   rw[hp] at h
   have h:(i.1==(2:Int))=true:=h
   refine⟨?_,step_skip hp s⟩
   rw[step_op hp]
   unfold doI
   rw[h]
   rfl
  |br o c t=>rw[hp] at h;cases h
def EndsIn (E:Env) (N:Nat) (stop:Nat→Bool) (q:IO3):Prop:=∃k c j' s',k≤N∧goN E k q=(k,c,true,j',s')∧stop j'=true
theorem endsIn_mono {E:Env} {N N':Nat} {stop stop':Nat→Bool} {q:IO3} (h:EndsIn E N stop q) (hn:N≤N') (hs:∀j,stop j=true→stop' j=true):EndsIn E N' stop' q:=by
 obtain⟨k,c,j',s',h1,h2,h3⟩:=h
 exact⟨k,c,j',s',by omega,h2,hs _ h3⟩
theorem endsIn_on {E:Env} {N k c j':Nat} {s':IS} {stop:Nat→Bool} {q:IO3} (g:goN E k q=(k,c,false,j',s')) (h:EndsIn E N stop (false,j',s')):EndsIn E (k+N) stop q:=by
 obtain⟨k2,c2,j2,s2,h1,h2,h3⟩:=h
 refine⟨k+k2,c+c2,j2,s2,by omega,?_,h3⟩
 rw[goN_add,g,h2]
theorem endsIn_go {E:Env} {N k c j j':Nat} {s s':IS} {stop:Nat→Bool} (g:GoTo E k c j s j' s') (h:EndsIn E N stop (false,j',s')):EndsIn E (k+N) stop (false,j,s):=endsIn_on g h
theorem endsIn_bk {E:Env} {j:Nat} {stop:Nat→Bool} (hb:isBk E j=true) (hs:stop j=true) (s:IS):EndsIn E 1 stop (false,j,s):=by
 obtain⟨c,g⟩:=goN_one (bk_step hb s).1
 exact⟨1,c,j,s,Nat.le_refl _,g,hs⟩
theorem ctl_end {E:Env} {stop:Nat→Bool} (hh:stop E.h=true) (hb:∀j,stop j=true→isBk E j=true) {N j:Nat} (hc:cfTo E stop N j=true) (s:IS):EndsIn E (N+1) stop (false,j,s):=by
 obtain⟨k,j',s',h1,g,h3⟩:=cf_ok hh N j s hc
 exact endsIn_mono (endsIn_go g (endsIn_bk (hb j' h3) h3 s')) (by omega) (fun _ h=>h)
def ftE (E:Env) (stop:Nat→Bool) (N j:Nat):Bool:=bif isBk E j then stop j&&stop (j+1) else notEnd E j&&(sucIn E (cfTo E stop N) j&&(cfTo E stop N (j+1)&&cfTo E stop N E.h))
theorem ftE_ok {E:Env} {stop:Nat→Bool} (hh:stop E.h=true) (hb:∀j,stop j=true→isBk E j=true) {N j:Nat} (h:ftE E stop N j=true) (sk:Bool) (s:IS):EndsIn E (N+1) stop (stepI E sk j s):=by
 unfold ftE at h
 cases hk:isBk E j
 ·rw[hk,cond_false] at h
  simp only[Bool.and_eq_true] at h
  obtain⟨h1,h2,h3,h4⟩:=h
  obtain⟨j1,s1,e,hc⟩:=step_part h1 h2 h3 h4 sk s
  rw[e]
  exact ctl_end hh hb hc s1
 ·rw[hk,cond_true,Bool.and_eq_true] at h
  obtain⟨e1,e2⟩:=bk_step hk s
  cases sk
  ·rw[e1]
   exact⟨0,0,j,s,by omega,rfl,h.1⟩
  ·rw[e2]
   exact endsIn_mono (endsIn_bk (hb _ h.2) h.2 s) (by omega) (fun _ h=>h)
theorem line_mid {E:Env} {K j j':Nat} {s s':IS} (g:GoTo E K 0 j s j' s') (hl:∀t,t+1<K→sucIn E (fun x=>x==j+t+1||x==E.h) (j+t)=true) (hn:∀t,t+1<K→noStr E (j+t)=true):∀t,t<K→∃st,GoTo E t 0 j s (j+t) st∧st.2.2=s.2.2
 |0,_=>⟨s,GoTo.refl E j s,rfl⟩
 |t+1,ht=>by
  obtain⟨st,g1,m1⟩:=line_mid g hl hn t (by omega)
  obtain⟨m,rfl⟩:∃m,K=t+(m+1+1):=⟨K-t-2,by omega⟩
  have gr:=go_rest g g1
  obtain⟨j1,s1,c1,e1,g2,ec⟩:=go_split gr
  have c0:c1=0:=by omega
  subst c0
  have hj:(j+t==E.h)=false:=by
   cases hb:(j+t==E.h)
   ·rfl
   ·rw[hb] at ec;simp only[cond_true] at ec;omega
  have hs:=suc_ok (hl t (by omega)) st (by rw[e1])
  rw[e1] at hs
  simp only[Bool.or_eq_true,beq_iff_eq] at hs
  have hne:j1≠E.h:=fun e=>by
   subst e
   obtain⟨_,_,c3,_,_,ec3⟩:=go_split g2
   rw[beq_self_eq_true] at ec3
   simp only[cond_true] at ec3
   omega
  rcases hs with rfl |hs
  ·have hm:=step_mem (hn t (by omega)) false st
   rw[e1] at hm
   have hm:s1.2.2=st.2.2:=hm
   refine⟨s1,?_,by rw[hm,m1]⟩
   have g3:GoTo E 1 0 (j+t) st (j+t+1) s1:=go_cons e1 (by simpa using hj) (GoTo.refl _ _ _)
   exact g1.trans g3
  ·exact(hne hs).elim
theorem line_mid' {E:Env} {K j j':Nat} {s s':IS} (g:GoTo E K 0 j s j' s') (hl:∀t,t+1<K→sucIn E (fun x=>x==j+t+1||x==E.h) (j+t)=true):∀t,t<K→∃st,GoTo E t 0 j s (j+t) st
 |0,_=>⟨s,GoTo.refl E j s⟩
 |t+1,ht=>by
  obtain⟨st,g1⟩:=line_mid' g hl t (by omega)
  obtain⟨m,rfl⟩:∃m,K=t+(m+1+1):=⟨K-t-2,by omega⟩
  have gr:=go_rest g g1
  obtain⟨j1,s1,c1,e1,g2,ec⟩:=go_split gr
  have c0:c1=0:=by omega
  subst c0
  have hj:(j+t==E.h)=false:=by
   cases hb:(j+t==E.h)
   ·rfl
   ·rw[hb] at ec;simp only[cond_true] at ec;omega
  have hs:=suc_ok (hl t (by omega)) st (by rw[e1])
  rw[e1] at hs
  simp only[Bool.or_eq_true,beq_iff_eq] at hs
  have hne:j1≠E.h:=fun e=>by
   subst e
   obtain⟨_,_,c3,_,_,ec3⟩:=go_split g2
   rw[beq_self_eq_true] at ec3
   simp only[cond_true] at ec3
   omega
  rcases hs with rfl |hs
  ·have g3:GoTo E 1 0 (j+t) st (j+t+1) s1:=go_cons e1 (by simpa using hj) (GoTo.refl _ _ _)
   exact⟨s1,g1.trans g3⟩
  ·exact(hne hs).elim
theorem goN_le (E:Env):∀(n:Nat) (q:IO3),(goN E n q).1≤n
 |0,_=>Nat.le_refl _
 |n+1,q=>by
  rw[goN]
  cases q.1
  ·have:=goN_le E n (stepI E false q.2.1 q.2.2)
   show(goN E n (stepI E false q.2.1 q.2.2)).1+1≤_
   omega
  ·exact Nat.zero_le _
theorem goN_full (E:Env):∀(n:Nat) (q:IO3),(goN E n q).2.2.1=false→(goN E n q).1=n
 |0,_,_=>rfl
 |n+1,q,h=>by
  rw[goN] at h ⊢
  cases hq:q.1
  ·rw[hq] at h
   have:=goN_full E n (stepI E false q.2.1 q.2.2) h
   show(goN E n (stepI E false q.2.1 q.2.2)).1+1=_
   omega
  ·rw[hq] at h
   have h:q.1=false:=h
   rw[h] at hq
   cases hq
theorem goI_ends {E:Env} (f:tFault.den) (stop:Nat→Bool) (m K N B:Nat) (s:IS) {c0 j0:Nat} {s0:IS} (hclean:goN E K (false,0,s)=(K,c0,true,j0,s0)) (h0:stop j0=true)
  (hf:∀T c j st,goN E T (false,0,s)=(T,c,false,j,st)→T<K→EndsIn E N stop (stepI E (f.1==(1:Int)) j (hitI f st)))
  (hm:(m:Int)≤(show Int from f.2.1)) (hB:K+N+2≤B):(goI E f B m (false,0,s)).2.2.1=true∧stop (goI E f B m (false,0,s)).2.2.2.1=true:=by
 obtain⟨T,hT⟩:∃T:Nat,(show Int from f.2.1)=(m:Int)+T:=⟨((show Int from f.2.1)-m).toNat,by omega⟩
 rcases Nat.lt_or_ge T K with hlt |hge
 ·have hg:∃c j st,goN E T (false,0,s)=(T,c,false,j,st):=by
   have hK:goN E (T+(K-T)) (false,0,s)=(K,c0,true,j0,s0):=by rw[show T+(K-T)=K by omega];exact hclean
   rw[goN_add] at hK
   generalize hq:goN E T (false,0,s)=q at hK ⊢
   obtain⟨a,c,b,j,st⟩:=q
   cases b with
   |true =>
    rw[goN_done E (K-T) rfl] at hK
    have h1:=congrArg (fun x=>x.1) hK
    dsimp only at h1
    have:=goN_le E T (false,0,s)
    rw[hq] at this
    dsimp only at this
    omega
   |false =>
    have:=goN_full E T (false,0,s) (by rw[hq])
    rw[hq] at this
    dsimp only at this
    exact⟨c,j,st,by rw[this]⟩
  obtain⟨c,j,st,hg⟩:=hg
  obtain⟨k,c2,j',s',h1,h2,h3⟩:=hf T c j st hg hlt
  obtain⟨d,rfl⟩:∃d,B=T+(d+1):=⟨B-T-1,by omega⟩
  have e1:=goI_split E f (d+1) T m (false,0,s) (by omega)
  rw[hg] at e1
  have e2:=goI_hit E f d ((m:Int)+T) j st hT
  rw[e2] at e1
  have e3:goN E d (stepI E (f.1==(1:Int)) j (hitI f st))=(k,c2,true,j',s'):=by
   obtain⟨d',rfl⟩:∃d',d=k+d':=⟨d-k,by omega⟩
   rw[goN_add,h2,goN_done _ d' rfl]
   rfl
  rw[e3] at e1
  rw[e1]
  exact⟨rfl,h3⟩
 ·obtain⟨d,rfl⟩:∃d,B=K+d:=⟨B-K,by omega⟩
  have e1:=goI_split E f d K m (false,0,s) (by omega)
  rw[hclean] at e1
  have e2:∀k,goI E f d k (true,j0,s0)=(0,0,true,j0,s0):=fun k=>by cases d<;>rfl
  rw[e2] at e1
  rw[e1]
  exact⟨rfl,h0⟩
end Go.Av
end
section
namespace Go.Av
open Go
def getW (x:Nat):List tIns.den:=[insI 3 7 0 0 0 (lo false (x:Int)) 0,insI 4 7 0 0 0 (hi false (x:Int)) 0,insI 19 0 7 0 0 0 0]
theorem getW_exec (E:Env) (x:Nat) (s:IS) (hw:E.okR x=true) (hx:x<4294967296):∃ρ',execL E (getW x) s=some (ρ',s.2)∧ρ' 0=s.2.2 x:=by
 obtain⟨ρ1,e1,v1,k1⟩:=word_at E 7 (x:Int) s
 refine⟨updR ρ1 0 (s.2.2 x),?_,updR_same _ _ _⟩
 have e:getW x=[insI 3 7 0 0 0 (lo false (x:Int)) 0,insI 4 7 0 0 0 (hi false (x:Int)) 0]++[insI 19 0 7 0 0 0 0]:=rfl
 rw[e,execL_app,e1]
 have h7:ρ1 7=x:=by rw[v1];exact wn_nat hx
 show((bif E.okR (ρ1 7) then some (updR ρ1 0 (s.2.2 (ρ1 7)),s.2) else none):Option IS).bind (execL E [])=_
 rw[h7,hw]
 rfl
def lookW (x:Nat) (t:Int):List tIns.den:=getW x++([insI 3 1 0 0 0 (lo false t) 0,insI 4 1 0 0 0 (hi false t) 0]++[insI 23 0 0 1 0 0 0])
theorem lookW_exec (E:Env) (x:Nat) (t:Int) (s:IS) (hw:E.okR x=true) (hx:x<4294967296):∃ρ',execL E (lookW x t) s=some (ρ',cmpF (s.2.2 x) (wn t),s.2.2):=by
 obtain⟨ρ1,e1,v1⟩:=getW_exec E x s hw hx
 obtain⟨ρ2,e2,v2,k2⟩:=word_at E 1 t (ρ1,s.2)
 refine⟨ρ2,?_⟩
 unfold lookW
 rw[execL_app,e1]
 show execL E (_++_) (ρ1,s.2)=_
 rw[execL_app,e2]
 have h0:ρ2 0=s.2.2 x:=by
  rw[k2 0 (by decide)]
  exact v1
 show some (ρ2,cmpF (ρ2 0) (ρ2 1),s.2.2)=_
 rw[h0,v2]
theorem in_one (t:Nat):regW 0 64 537133056=some 3∧regW 0 64 537395200=some 4∧regW 0 64 537133060=some 3∧regW 0 64 537395204=some 4∧t=t:=⟨rfl,rfl,rfl,rfl,rfl⟩
theorem qln {P:List PI} {n h:Nat} (hs:SzOk 0 64 n):Env.okR ⟨P,0,64,n,h⟩ 537133056=true∧Env.okR ⟨P,0,64,n,h⟩ 537395200=true∧Env.okR ⟨P,0,64,n,h⟩ 537133060=true∧Env.okR ⟨P,0,64,n,h⟩ 537395204=true:=by
 obtain⟨a,b,c,d,_⟩:=in_one 0
 refine⟨?_,?_,?_,?_⟩
 ·show(regR 0 64 n _).isSome=true
  rw[regR_regW hs a]
  rfl
 ·show(regR 0 64 n _).isSome=true
  rw[regR_regW hs b]
  rfl
 ·show(regR 0 64 n _).isSome=true
  rw[regR_regW hs c]
  rfl
 ·show(regR 0 64 n _).isSome=true
  rw[regR_regW hs d]
  rfl
def bkI (n:Int):tIns.den:=insI 2 0 0 0 0 n 0
def endL (n:Int):List tItem.den:=[itL n,itI (bkI n),itI (bkI n)]
def enH (t:Int) (k:Int):List tItem.den:=enterL false false t k 2++endL 0++endL 2
def enP (t:Int):List PI:=(lookW 537133056 t).map PI.op++[.br 25 1 16]++(lookW 537395200 t).map PI.op++[.br 25 1 16,.op (bkI 0),.op (bkI 0),.op (bkI 2),.op (bkI 2)]
theorem en_P (t:Int) (m:Nat):stripL (fun l=>cntL l (enH t (Int.ofNat (m+8)))) (enH t (Int.ofNat (m+8)))=enP t:=by kernel_rfl
theorem en_c (t:Int) (m:Nat):cntL 2 (enH t (Int.ofNat (m+8)))=16:=by kernel_rfl
theorem en_labs (t k:Int):labsL (enH t k)=[k,0,2]:=by kernel_rfl
theorem en_pos (t k a b:Int):labPos (its (setI ((0:Nat):Int) a b)++enH t k) (its (setI ((0:Nat):Int) a b)++enH t k).length=([(k,0),(0,14),(2,16)]:List (Int×Nat)).map fun p=>(p.1,10+p.2):=by kernel_rfl
theorem look_all {L:List Int} (t:Int) (rr:Nat) (h:L.contains 2=true):(its (getL rr 0)++cmpL false false t 1 2).all (jOk L)=true:=by
 have hr:opK (insI 4 7 0 0 0 (railA rr) 0)=true:=by
  unfold railA
  split<;>rfl
 show(true&&(opK (insI 4 7 0 0 0 (railA rr) 0)&&(true&&(opK (insI 3 1 0 0 0 (lo false t) 0)&&(opK (insI 4 1 0 0 0 (hi false t) 0)&&(true&&((true&&(true&&L.contains 2))&&true)))))))=true
 rw[hr,opK_lo 1 t (by omega),opK_hi 1 t (by omega),h]
 rfl
theorem all_app {f:tItem.den→Bool} {a b:List tItem.den} (h1:a.all f=true) (h2:b.all f=true):(a++b).all f=true:=by
 rw[List.all_append,h1,h2]
 rfl
theorem en_ok (t:Int) (m:Nat):WOk (enH t (Int.ofNat (m+8))):=by
 have hl:=en_labs t (Int.ofNat (m+8))
 have h8:(8:Int)≤Int.ofNat (m+8):=by
  show(8:Int)≤((m+8:Nat):Int)
  omega
 have hP:=en_P t m
 have hc:=en_c t m
 generalize Int.ofNat (m+8)=k at *
 refine⟨?_,?_,?_,?_,?_⟩
 ·rw[hl]
  have hc2:([k,0,2]:List Int).contains 2=true:=List.contains_iff_mem.2 (by simp)
  have e:enH t k=[itL k]++((its (getL 0 0)++cmpL false false t 1 2)++((its (getL 1 0)++cmpL false false t 1 2)++(endL 0++endL 2))):=rfl
  rw[e]
  exact all_app rfl (all_app (look_all t 0 hc2) (all_app (look_all t 1 hc2) rfl))
 ·rw[hl]
  simp only[List.nodup_cons,List.mem_cons,List.not_mem_nil,or_false,not_or,List.nodup_nil,and_true,not_false_eq_true]
  omega
 ·rw[hl]
  simp
 ·rw[hP,hc]
  have:(enP t).length=18:=rfl
  omega
 ·show(enH t k).length≤200
  have:(enH t k).length=21:=rfl
  omega
section
variable (t:Int) (n:Nat)
def enE:Env:=⟨enP t,0,64,n,16⟩
def enStop (j:Nat):Bool:=j==14||(j==15||(j==16||j==17))
theorem en_bk (j:Nat) (h:enStop j=true):isBk (enE t n) j=true:=by
 unfold enStop at h
 simp only[Bool.or_eq_true,beq_iff_eq] at h
 rcases h with rfl |rfl |rfl |rfl<;>rfl
theorem en_ft:((List.range 17).all fun j=>ftE (enE t n) enStop 20 j)=true:=by kernel_rfl
theorem en_in:((List.range 18).all fun j=>sucIn (enE t n) (fun x=>Nat.ble x 16) j)=true:=by kernel_rfl
theorem en_bk16:isBk (enE t n) 16=true:=by kernel_rfl
theorem en_bk14:isBk (enE t n) 14=true:=by kernel_rfl
theorem en_op1:∀i,i<(lookW 537133056 t).length→(enE t n).P[0+i]?=((lookW 537133056 t)[i]?).map .op:=by
 intro i hi
 have hi:i<6:=hi
 have:i=0∨i=1∨i=2∨i=3∨i=4∨i=5:=by omega
 rcases this with rfl |rfl |rfl |rfl |rfl |rfl<;>rfl
theorem en_op2:∀i,i<(lookW 537395200 t).length→(enE t n).P[7+i]?=((lookW 537395200 t)[i]?).map .op:=by
 intro i hi
 have hi:i<6:=hi
 have:i=0∨i=1∨i=2∨i=3∨i=4∨i=5:=by omega
 rcases this with rfl |rfl |rfl |rfl |rfl |rfl<;>rfl
theorem en_b1:(enE t n).P[6]?=some (.br 25 1 16):=by kernel_rfl
theorem en_b2:(enE t n).P[13]?=some (.br 25 1 16):=by kernel_rfl
theorem en_run (hs:SzOk 0 64 n) (s:IS):∃k c s',k≤15∧goN (enE t n) k (false,0,s)=(k,c,true,(bif s.2.2 537133056==wn t&&s.2.2 537395200==wn t then 14 else 16),s'):=by
 have hh:(enE t n).h=16:=rfl
 obtain⟨oA,oB,_,_⟩:=qln (P:=enP t) (h:=16) hs
 obtain⟨ρ1,e1⟩:=lookW_exec (enE t n) 537133056 t s oA (by omega)
 have g1:=execL_go (lookW 537133056 t) 0 _ _ (en_op1 t n) (fun i hi=>by
  have hi:i<6:=hi
  rw[hh]
  omega) e1
 have g1:GoTo (enE t n) 6 0 0 s 6 (ρ1,cmpF (s.2.2 537133056) (wn t),s.2.2):=g1
 have b1:=step_br (en_b1 t n) (ρ1,cmpF (s.2.2 537133056) (wn t),s.2.2)
 have b1:stepI (enE t n) false 6 (ρ1,cmpF (s.2.2 537133056) (wn t),s.2.2)=bif s.2.2 537133056 != wn t then(false,16,(ρ1,cmpF (s.2.2 537133056) (wn t),s.2.2)) else(false,7,(ρ1,cmpF (s.2.2 537133056) (wn t),s.2.2)):=by
  rw[b1]
  show(bif goesF (cmpF (s.2.2 537133056) (wn t)) 25 1 then _ else _)=_
  rw[goes_neF]
 generalize cmpF (s.2.2 537133056) (wn t)=F1 at *
 cases hx:(s.2.2 537133056==wn t)
 ·have hx':(s.2.2 537133056 != wn t)=true:=by unfold bne;rw[hx];rfl
  rw[hx',cond_true] at b1
  obtain⟨c1,g2⟩:=goN_one b1
  obtain⟨c2,g3⟩:=goN_one (bk_step (en_bk16 t n) (ρ1,F1,s.2.2)).1
  exact⟨6+1+1,_,_,by omega,goN_then (goN_then g1 g2) g3⟩
 ·have hx':(s.2.2 537133056 != wn t)=false:=by unfold bne;rw[hx];rfl
  rw[hx',cond_false] at b1
  obtain⟨c1,g2⟩:=goN_one b1
  obtain⟨ρ2,e2⟩:=lookW_exec (enE t n) 537395200 t (ρ1,F1,s.2.2) oB (by omega)
  have g3:=execL_go (lookW 537395200 t) 7 _ _ (en_op2 t n) (fun i hi=>by
   have hi:i<6:=hi
   rw[hh]
   omega) e2
  have g3:GoTo (enE t n) 6 0 7 (ρ1,F1,s.2.2) 13 (ρ2,cmpF (s.2.2 537395200) (wn t),s.2.2):=g3
  have b2:stepI (enE t n) false 13 (ρ2,cmpF (s.2.2 537395200) (wn t),s.2.2)=bif s.2.2 537395200 != wn t then(false,16,(ρ2,cmpF (s.2.2 537395200) (wn t),s.2.2)) else(false,14,(ρ2,cmpF (s.2.2 537395200) (wn t),s.2.2)):=by
   rw[step_br (en_b2 t n)]
   show(bif goesF (cmpF (s.2.2 537395200) (wn t)) 25 1 then _ else _)=_
   rw[goes_neF]
  generalize cmpF (s.2.2 537395200) (wn t)=F2 at *
  have gg:=goN_then (goN_then g1 g2) g3
  cases hy:(s.2.2 537395200==wn t)
  ·have hy':(s.2.2 537395200 != wn t)=true:=by unfold bne;rw[hy];rfl
   rw[hy',cond_true] at b2
   obtain⟨c2,g4⟩:=goN_one b2
   obtain⟨c3,g5⟩:=goN_one (bk_step (en_bk16 t n) (ρ2,F2,s.2.2)).1
   exact⟨6+1+6+1+1,_,_,by omega,goN_then (goN_then gg g4) g5⟩
  ·have hy':(s.2.2 537395200 != wn t)=false:=by unfold bne;rw[hy];rfl
   rw[hy',cond_false] at b2
   obtain⟨c2,g4⟩:=goN_one b2
   obtain⟨c3,g5⟩:=goN_one (bk_step (en_bk14 t n) (ρ2,F2,s.2.2)).1
   exact⟨6+1+6+1+1,_,_,by omega,goN_then (goN_then gg g4) g5⟩
theorem en_stay:∀(T c:Nat) (j0:Nat) (s:IS) (j:Nat) (st:IS),j0≤16→goN (enE t n) T (false,j0,s)=(T,c,false,j,st)→j≤16
 |0,c,j0,s,j,st,h0,h=>by
  have h:((0,0,false,j0,s):Nat×Nat×IO3)=(0,c,false,j,st):=h
  injection h with _ h
  injection h with _ h
  injection h with _ h
  injection h with h _
  omega
 |T+1,c,j0,s,j,st,h0,h=>by
  have h:GoTo (enE t n) (T+1) c j0 s j st:=h
  obtain⟨j1,s1,c1,e1,g1,_⟩:=go_split h
  have hs:=suc_ok (List.all_eq_true.1 (en_in t n) j0 (List.mem_range.2 (by omega))) s (by rw[e1])
  rw[e1] at hs
  exact en_stay T c1 j1 s1 j st (Nat.le_of_ble_eq_true hs) g1
end
theorem loop8E (x:shDens qbb.ss) (f:tFault.den) (base l:List tItem.den) (hb:base.length+l.length≤1000) (hx1:x.2.2.2.2.1=base) (hx2:x.2.2.2.2.2.2.1=l) (hx3:x.2.2.2.2.2.2.2=0):LoopN.res qbb x f=some (0,(base++l,(l.length:Int),f)):=by
 obtain⟨x1,x2,x3,x4,x5,x6,x7,x8⟩:=x
 dsimp only at hx1 hx2 hx3
 subst hx1 hx2 hx3
 unfold LoopN.res
 have key:runL (qbb.turn (x1,x2,x3,x4,x5,x6,x7,0) f) (x7.length+1) (x5++x7.take 0,((0:Nat):Int),f)=some (0,(x5++x7,(x7.length:Int),f)):=?_
 ·rw[List.take_zero,List.append_nil] at key
  exact key
 refine runL_count (turn:=qbb.turn (x1,x2,x3,x4,x5,x6,x7,0) f) (fun n=>(x5++x7.take n,(n:Int),f)) (0,(x5++x7,(x7.length:Int),f)) (n:=x7.length) (fun n hn=>?_) ?_ x7.length 0 (by omega) _ (Nat.lt_succ_self _)
 ·have hg:List.getD x7 (Int.toNat (n:Int)) (Ty.dflt tItem)=x7[n]:=getD_in x7 _ hn
  have hw:w64 ((n:Int)+1)=((n+1:Nat):Int):=by rw[w64_id (by omega) (by omega)];omega
  refine(val_yes (dec_true (show(n:Int)<lenI x7 by simp only[lenI];omega))).trans ((val_yes (inR hn)).trans ?_)
  dsimp only
  rw[hg,hw]
  refine(val_yes ?_).trans ?_
  ·rw[Nat.ble_eq,List.length_append,List.length_take]
   show(_+1)*80≤_
   omega
  ·rw[List.take_succ_eq_append_getElem hn,List.append_assoc]
   rfl
 ·refine(val_no (dec_false (show ¬((x7.length:Nat):Int)<lenI x7 by simp only[lenI];omega))).trans ?_
  dsimp only
  rw[List.take_length]
  rfl
theorem tag_in (k:Int):0≤qn k∧qn k<4294967296:=by
 have e:qn k=((Nat.succ (tagN k):Nat):Int):=rfl
 rw[e]
 unfold tagN
 omega
theorem en_where (m:Nat) (a b:Int):∀k:Int,k=Int.ofNat (m+8) →
  (∀f,qp f=0→(10≤(show Int from f.2.1)∨f=noFault)→qP (its (setI ((0:Nat):Int) a b)++enH (qn k) k,f,3)=true) ∧
  qu (its (setI ((0:Nat):Int) a b)++enH (qn k) k,noFault,3)=(bif wn a==wn (qn k)&&wn b==wn (qn k) then 0 else 2) ∧
  ∀f,qp f=0→10≤(show Int from f.2.1)→qu (its (setI ((0:Nat):Int) a b)++enH (qn k) k,f,3)=0∨qu (its (setI ((0:Nat):Int) a b)++enH (qn k) k,f,3)=2:=by
 intro k hk
 generalize qn k=t
 subst hk
 obtain⟨n,s1,hs,hA,hB,hW⟩:=where_part (off:=0) a b (.inl rfl) (en_ok t m) (en_pos t (Int.ofNat (m+8)) a b) (fun p hp hp3=>by
  simp only[List.mem_cons,List.not_mem_nil,or_false] at hp
  rw[en_P]
  rcases hp with rfl |rfl |rfl
  ·exfalso
   have:((m+8:Nat):Int)<3:=hp3
   omega
  ·exact⟨0,rfl⟩
  ·exact⟨2,rfl⟩)
 have hE:whereE (enH t (Int.ofNat (m+8))) n=enE t n:=by
  unfold whereE enE
  rw[en_P,en_c]
 rw[hE] at hW
 have hA:s1.2.2 537133056=wn a:=hA
 have hB:s1.2.2 537395200=wn b:=hB
 obtain⟨K,c,s',hK,hrun⟩:=en_run t n hs s1
 rw[hA,hB] at hrun
 have hlab:∀j,enStop j=true→scanJ j [((Int.ofNat (m+8):Int),0),(0,14),(2,16)]=bif Nat.ble j 15 then 0 else 2:=fun j hj=>by
  have hk3:decide ((Int.ofNat (m+8):Int)<3)=false:=dec_false (by
   show ¬((m+8:Nat):Int)<3
   omega)
  unfold scanJ
  rw[hk3]
  unfold enStop at hj
  simp only[Bool.or_eq_true,beq_iff_eq] at hj
  rcases hj with rfl |rfl |rfl |rfl<;>rfl
 refine⟨fun f hf hfs=>(hW f hf hfs).1,?_,fun f hf hfs=>?_⟩
 ·rw[(hW noFault noF_check (.inr rfl)).2,goI_none]
  have:goN (enE t n) 390 (false,0,s1)=(K,c,true,(bif wn a==wn t&&wn b==wn t then 14 else 16),s'):=by
   obtain⟨d,hd⟩:∃d,390=K+d:=⟨390-K,by omega⟩
   rw[hd,goN_add,hrun,goN_done _ d rfl]
   rfl
  rw[this]
  dsimp only
  rw[cond_true,hlab _ (by cases (wn a==wn t&&wn b==wn t)<;>rfl)]
  cases (wn a==wn t&&wn b==wn t)<;>rfl
 ·rw[(hW f hf (.inl hfs)).2]
  obtain⟨g1,g2⟩:=goI_ends f enStop 10 K 21 390 s1 hrun (by cases (wn a==wn t&&wn b==wn t)<;>rfl) (fun T c j st hg _=>by
   have hj:=en_stay t n T c 0 s1 j st (by omega) hg
   exact ftE_ok rfl (en_bk t n) (List.all_eq_true.1 (en_ft t n) j (List.mem_range.2 (by omega))) (f.1==(1:Int)) (hitI f st)) hfs (by omega)
  have g1:(goI (enE t n) f 390 10 (false,0,s1)).2.2.1=true:=g1
  have g2:enStop (goI (enE t n) f 390 10 (false,0,s1)).2.2.2.1=true:=g2
  rw[g1,cond_true,hlab _ g2]
  cases Nat.ble (goI (enE t n) f 390 10 (false,0,s1)).2.2.2.1 15
  ·exact .inr rfl
  ·exact .inl rfl
theorem qjz (x:dens qS) (_:fitsAll maxLen qS x):(qdN x).val=some true:=by
 obtain⟨k,a,b,f⟩:=x
 unfold qdN
 dsimp only
 refine(val_yes (by rw[Bool.or_true,Bool.or_true])).trans ?_
 cases hc:(decide ((show Int from k)<8)||(decide ((show Int from k) > 60000)||qp f != 0))
 ·simp only[Bool.or_eq_false_iff,decide_eq_false_iff_not] at hc
  obtain⟨h1,h2,h3⟩:=hc
  have hf:qp f=0:=by simpa using h3
  have key:∀k':Int,¬k' < 8→∃m:Nat,k'=Int.ofNat (m+8):=fun k' h=>⟨(k' - 8).toNat,by
   show k'=(((k' - 8).toNat+8:Nat):Int)
   omega⟩
  obtain⟨m,hm⟩:=key k h1
  obtain⟨w1,w2,w3⟩:=en_where m a b k hm
  have hW:its (setI ((0:Nat):Int) a b)++qcF (k,2)++endL 0++endL 2=its (setI ((0:Nat):Int) a b)++enH (qn k) k:=by
   rw[List.append_assoc,List.append_assoc]
   rfl
  have hloop:=loop8E (k,a,b,(),its (setI ((0:Nat):Int) a b),10,qcF (k,2),0) f (its (setI ((0:Nat):Int) a b)) (qcF (k,2)) (by
   have e1:(its (setI ((0:Nat):Int) a b)).length=10:=rfl
   have e2:(qcF (k,2)).length=15:=rfl
   omega) rfl rfl rfl
  have hlen:(its (setI ((0:Nat):Int) a b)++qcF (k,2)).length=25:=rfl
  refine(val_no rfl).trans ((val_yes rfl).trans ((val_yes rfl).trans ((val_opt hloop).trans ?_)))
  dsimp only
  have hW2:its (setI ((0:Nat):Int) a b)++qcF (k,2)++[((1:Int),(0:Int),((0:Int),(0:Int),(0:Int),(0:Int),(0:Int),(0:Int),(0:Int),false,()),()),(0,0,(2,0,0,0,0,0,0,false,()),()),(0,0,(2,0,0,0,0,0,0,false,()),())]++[(1,2,(0,0,0,0,0,0,0,false,()),()),(0,0,(2,0,0,0,0,2,0,false,()),()),(0,0,(2,0,0,0,0,2,0,false,()),())]=its (setI ((0:Nat):Int) a b)++enH (qn k) k:=hW
  rw[hW2]
  have hn:((0,0,0,0,()):tFault.den)=noFault:=rfl
  rw[hn,w2]
  have tg:=tag_in k
  have ht:∀v:Int,(band IntKind.i64 v 4294967295==qn k)=(wn v==wn (qn k)):=fun v=>by
   rw[band_wn]
   have e:qn k=((wn (qn k):Nat):Int):=by
    rw[wn_int]
    omega
   rw[Bool.eq_iff_iff,beq_iff_eq,beq_iff_eq]
   constructor
   ·intro h
    omega
   ·intro h
    omega
  rw[ht a,ht b]
  refine(val_yes ?_).trans ((val_yes ?_).trans ((val_yes (w1 noFault noF_check (.inr rfl))).trans ?_))
  ·rw[Nat.ble_eq,hlen]
   show(25+3)*80≤_
   omega
  ·rw[Nat.ble_eq,List.length_append,hlen]
   show(25+3+3)*80≤_
   omega
  ·cases hr:(wn a==wn (qn k)&&wn b==wn (qn k))
   ·exact(val_no rfl).trans ((val_yes rfl).trans rfl)
   ·refine(val_no rfl).trans ?_
    cases hst:(decide ((show Int from f.2.1)<10)||decide ((show Int from f.2.1) > 1000))
    ·simp only[Bool.or_eq_false_iff,decide_eq_false_iff_not] at hst
     have h10:10≤(show Int from f.2.1):=Int.not_lt.1 hst.1
     refine(val_no rfl).trans ((val_yes (w1 f hf (.inl h10))).trans ?_)
     rcases w3 f hf h10 with h |h
     ·rw[h]
      exact(val_yes rfl).trans rfl
     ·rw[h]
      exact(val_yes rfl).trans rfl
    ·exact(val_yes rfl).trans rfl
 ·exact(val_yes rfl).trans rfl
end Go.Av
end
section
namespace Go.Av
open Go
theorem lookW_exec' (E:Env) (x:Nat) (t:Int) (s:IS) (hw:E.okR x=true) (hx:x<4294967296):∃ρ',execL E (lookW x t) s=some (ρ',cmpF (s.2.2 x) (wn t),s.2.2)∧ρ' 0=s.2.2 x:=by
 obtain⟨ρ1,e1,v1⟩:=getW_exec E x s hw hx
 obtain⟨ρ2,e2,v2,k2⟩:=word_at E 1 t (ρ1,s.2)
 have h0:ρ2 0=s.2.2 x:=by
  rw[k2 0 (by decide)]
  exact v1
 refine⟨ρ2,?_,h0⟩
 unfold lookW
 rw[execL_app,e1]
 show execL E (_++_) (ρ1,s.2)=_
 rw[execL_app,e2]
 show some (ρ2,cmpF (ρ2 0) (ρ2 1),s.2.2)=_
 rw[h0,v2]
def goH:List tItem.den:=branchL false 4 7 2 (jmpL false 1) (jmpL false 0)++endL 0++endL 1++endL 2
def z0I:List tIns.den:=[insI 3 1 0 0 0 0 0,insI 23 0 0 1 0 0 0]
def goP:List PI:=(lookW 537133060 4294967295).map PI.op++[.br 25 0 28]++z0I.map PI.op++[.br 25 1 51]++(getW 537395204++z0I).map PI.op++[.br 25 1 51] ++
 (setI ((0:Nat):Int) (qn 1) (qn 1)).map PI.op++[.br 24 0 49,.br 24 0 49]++(lookW 537395204 4294967295).map PI.op++[.br 25 1 51]++(setI ((0:Nat):Int) (qn 0) (qn 0)).map PI.op++[.br 24 0 47,.br 24 0 47,.op (bkI 0),.op (bkI 0),.op (bkI 1),.op (bkI 1),.op (bkI 2),.op (bkI 2)]
theorem go_P:stripL (fun l=>cntL l goH) goH=goP:=by kernel_rfl
theorem go_c:cntL 2 goH=51:=by kernel_rfl
theorem go_pos (a b:Int):labPos (its (setI ((4:Nat):Int) a b)++goH) (its (setI ((4:Nat):Int) a b)++goH).length=([(7,28),(0,47),(1,49),(2,51)]:List (Int×Nat)).map fun p=>(p.1,10+p.2):=by kernel_rfl
theorem go_ok:WOk goH:=by
 have hl:labsL goH=[7,0,1,2]:=by kernel_rfl
 refine⟨by kernel_rfl,by rw[hl];decide,by rw[hl];decide,?_,?_⟩
 ·rw[go_P,go_c]
  have:goP.length=53:=rfl
  omega
 ·have:goH.length=57:=rfl
  omega
section
variable (n:Nat)
def goE:Env:=⟨goP,0,64,n,51⟩
def stY (j:Nat):Bool:=j==47||(j==48||(j==51||j==52))
def stN (j:Nat):Bool:=j==49||(j==50||(j==51||j==52))
def stA (j:Nat):Bool:=j==28||(j==10||j==51)
def stB (j:Nat):Bool:=j==28||(j==16||j==51)
theorem bk_all:((List.range' 47 6).all fun j=>isBk (goE n) j)=true:=by kernel_rfl
theorem go_ftY:((List.range' 28 20).all fun j=>ftE (goE n) stY 20 j)=true:=by kernel_rfl
theorem go_ftN:((List.range' 16 11).all fun j=>ftE (goE n) stN 20 j)=true:=by kernel_rfl
theorem go_ftN2:ftE (goE n) stN 20 49=true:=by kernel_rfl
theorem go_ftA:((List.range 7).all fun j=>ftR (goE n) stA 12 j)=true:=by kernel_rfl
theorem go_ftB:((List.range 16).all fun j=>ftR (goE n) stB 20 j)=true:=by kernel_rfl
theorem go_cY:cfTo (goE n) stY 25 28=true:=by kernel_rfl
theorem go_cN:cfTo (goE n) stN 25 16=true:=by kernel_rfl
theorem go_l0:((List.range 6).all fun j=>sucIn (goE n) (fun x=>x==j+1||x==51) j&&noStr (goE n) j)=true:=by kernel_rfl
theorem go_l7:((List.range' 7 2).all fun j=>sucIn (goE n) (fun x=>x==j+1||x==51) j&&noStr (goE n) j)=true:=by kernel_rfl
theorem go_l10:((List.range' 10 5).all fun j=>sucIn (goE n) (fun x=>x==j+1||x==51) j&&noStr (goE n) j)=true:=by kernel_rfl
theorem go_l16:((List.range' 16 10).all fun j=>sucIn (goE n) (fun x=>x==j+1||x==51) j)=true:=by kernel_rfl
theorem go_l28:((List.range' 28 6).all fun j=>sucIn (goE n) (fun x=>x==j+1||x==51) j&&noStr (goE n) j)=true:=by kernel_rfl
theorem go_l35:((List.range' 35 10).all fun j=>sucIn (goE n) (fun x=>x==j+1||x==51) j)=true:=by kernel_rfl
theorem go_b6:(goE n).P[6]?=some (.br 25 0 28):=by kernel_rfl
theorem go_b9:(goE n).P[9]?=some (.br 25 1 51):=by kernel_rfl
theorem go_b15:(goE n).P[15]?=some (.br 25 1 51):=by kernel_rfl
theorem go_b26:(goE n).P[26]?=some (.br 24 0 49):=by kernel_rfl
theorem go_b34:(goE n).P[34]?=some (.br 25 1 51):=by kernel_rfl
theorem go_b45:(goE n).P[45]?=some (.br 24 0 47):=by kernel_rfl
theorem seg_at (l:List tIns.den) (p:Nat) (h:((List.range l.length).all fun i=>match (goE n).P[p+i]?,l[i]? with
  |some (.op a),some b=>decide (a=b)
  |_,_=>false)=true):∀i,i<l.length→(goE n).P[p+i]?=(l[i]?).map .op:=by
 intro i hi
 have:=List.all_eq_true.1 h i (List.mem_range.2 hi)
 cases hP:(goE n).P[p+i]? with
 |none=>rw[hP] at this;cases this
 |some q =>
  cases q with
  |op a =>
   cases hl:l[i]? with
   |none=>rw[hP,hl] at this;cases this
   |some b =>
    rw[hP,hl] at this
    have:a=b:=of_decide_eq_true this
    rw[this]
    rfl
  |br o c t=>rw[hP] at this;cases this
theorem go_s0:∀i,i<(lookW 537133060 4294967295).length→(goE n).P[0+i]?=((lookW 537133060 4294967295)[i]?).map .op:=seg_at n _ 0 (by kernel_rfl)
theorem go_s7:∀i,i<z0I.length→(goE n).P[7+i]?=(z0I[i]?).map .op:=seg_at n _ 7 (by kernel_rfl)
theorem go_s10:∀i,i<(getW 537395204).length→(goE n).P[10+i]?=((getW 537395204)[i]?).map .op:=seg_at n _ 10 (by kernel_rfl)
theorem go_s13:∀i,i<z0I.length→(goE n).P[13+i]?=(z0I[i]?).map .op:=seg_at n _ 13 (by kernel_rfl)
theorem go_s16:∀i,i<(setI ((0:Nat):Int) (qn 1) (qn 1)).length→(goE n).P[16+i]?=((setI ((0:Nat):Int) (qn 1) (qn 1))[i]?).map .op:=seg_at n _ 16 (by kernel_rfl)
theorem go_s28:∀i,i<(lookW 537395204 4294967295).length→(goE n).P[28+i]?=((lookW 537395204 4294967295)[i]?).map .op:=seg_at n _ 28 (by kernel_rfl)
theorem go_s35:∀i,i<(setI ((0:Nat):Int) (qn 0) (qn 0)).length→(goE n).P[35+i]?=((setI ((0:Nat):Int) (qn 0) (qn 0))[i]?).map .op:=seg_at n _ 35 (by kernel_rfl)
theorem z0_exec (E:Env) (s:IS):∃ρ',execL E z0I s=some (ρ',cmpF (s.1 0) 0,s.2.2)∧ρ' 0=s.1 0:=by
 have h0:(updR s.1 1 0) 0=s.1 0:=updR_other _ _ (by decide)
 have h1:(updR s.1 1 0) 1=0:=updR_same _ _ _
 refine⟨updR s.1 1 0,?_,h0⟩
 show some (updR s.1 1 0,cmpF ((updR s.1 1 0) 0) ((updR s.1 1 0) 1),s.2.2)=_
 rw[h0,h1]
variable {n}
variable (hs:SzOk 0 64 n)
include hs
theorem g_0 (s:IS):∃ρ F,GoTo (goE n) 7 0 0 s (bif s.2.2 537133060==4294967295 then 28 else 7) (ρ,F,s.2.2)∧ρ 0=s.2.2 537133060:=by
 obtain⟨_,_,oA,oB⟩:=qln (P:=goP) (h:=51) hs
 obtain⟨ρ1,e1,v1⟩:=lookW_exec' (goE n) 537133060 4294967295 s oA (by omega)
 have g1:=execL_go (lookW 537133060 4294967295) 0 _ _ (go_s0 n) (fun i hi=>by
  have hi:i<6:=hi
  show 0+i≠51
  omega) e1
 have g1:GoTo (goE n) 6 0 0 s 6 (ρ1,cmpF (s.2.2 537133060) (wn 4294967295),s.2.2):=g1
 have ho:wn 4294967295=4294967295:=rfl
 rw[ho] at g1
 refine⟨ρ1,cmpF (s.2.2 537133060) 4294967295,?_,v1⟩
 have b1:stepI (goE n) false 6 (ρ1,cmpF (s.2.2 537133060) 4294967295,s.2.2)=(false,(bif s.2.2 537133060==4294967295 then 28 else 7),(ρ1,cmpF (s.2.2 537133060) 4294967295,s.2.2)):=by
  rw[step_br (go_b6 n)]
  show(bif goesF (cmpF (s.2.2 537133060) 4294967295) 25 0 then _ else _)=_
  rw[goes_eqF]
  cases (s.2.2 537133060==4294967295)<;>rfl
 exact g1.trans (go_cons b1 (by show(6:Nat)≠51;omega) (GoTo.refl _ _ _))
theorem g_7 (s:IS):∃ρ F,GoTo (goE n) 3 0 7 s (bif s.1 0==0 then 10 else 51) (ρ,F,s.2.2):=by
 have:=hs
 obtain⟨ρ1,e1,_⟩:=z0_exec (goE n) s
 have g1:=execL_go z0I 7 _ _ (go_s7 n) (fun i hi=>by
  have hi:i<2:=hi
  show 7+i≠51
  omega) e1
 have g1:GoTo (goE n) 2 0 7 s 9 (ρ1,cmpF (s.1 0) 0,s.2.2):=g1
 refine⟨ρ1,cmpF (s.1 0) 0,?_⟩
 have b1:stepI (goE n) false 9 (ρ1,cmpF (s.1 0) 0,s.2.2)=(false,(bif s.1 0==0 then 10 else 51),(ρ1,cmpF (s.1 0) 0,s.2.2)):=by
  rw[step_br (go_b9 n)]
  show(bif goesF (cmpF (s.1 0) 0) 25 1 then _ else _)=_
  rw[goes_neF]
  unfold bne
  cases (s.1 0==0)<;>rfl
 exact g1.trans (go_cons b1 (by show(9:Nat)≠51;omega) (GoTo.refl _ _ _))
theorem g_10 (s:IS):∃ρ F,GoTo (goE n) 6 0 10 s (bif s.2.2 537395204==0 then 16 else 51) (ρ,F,s.2.2):=by
 obtain⟨_,_,oA,oB⟩:=qln (P:=goP) (h:=51) hs
 obtain⟨ρ1,e1,v1⟩:=getW_exec (goE n) 537395204 s oB (by omega)
 have g1:=execL_go (getW 537395204) 10 _ _ (go_s10 n) (fun i hi=>by
  have hi:i<3:=hi
  show 10+i≠51
  omega) e1
 have g1:GoTo (goE n) 3 0 10 s 13 (ρ1,s.2):=g1
 obtain⟨ρ2,e2,_⟩:=z0_exec (goE n) (ρ1,s.2)
 have g2:=execL_go z0I 13 _ _ (go_s13 n) (fun i hi=>by
  have hi:i<2:=hi
  show 13+i≠51
  omega) e2
 have g2:GoTo (goE n) 2 0 13 (ρ1,s.2) 15 (ρ2,cmpF (ρ1 0) 0,s.2.2):=g2
 rw[v1] at g2
 refine⟨ρ2,cmpF (s.2.2 537395204) 0,?_⟩
 have b1:stepI (goE n) false 15 (ρ2,cmpF (s.2.2 537395204) 0,s.2.2)=(false,(bif s.2.2 537395204==0 then 16 else 51),(ρ2,cmpF (s.2.2 537395204) 0,s.2.2)):=by
  rw[step_br (go_b15 n)]
  show(bif goesF (cmpF (s.2.2 537395204) 0) 25 1 then _ else _)=_
  rw[goes_neF]
  unfold bne
  cases (s.2.2 537395204==0)<;>rfl
 exact(g1.trans g2).trans (go_cons b1 (by show(15:Nat)≠51;omega) (GoTo.refl _ _ _))
theorem g_28 (s:IS):∃ρ F,GoTo (goE n) 7 0 28 s (bif s.2.2 537395204==4294967295 then 35 else 51) (ρ,F,s.2.2):=by
 obtain⟨_,_,oA,oB⟩:=qln (P:=goP) (h:=51) hs
 obtain⟨ρ1,e1,v1⟩:=lookW_exec' (goE n) 537395204 4294967295 s oB (by omega)
 have g1:=execL_go (lookW 537395204 4294967295) 28 _ _ (go_s28 n) (fun i hi=>by
  have hi:i<6:=hi
  show 28+i≠51
  omega) e1
 have g1:GoTo (goE n) 6 0 28 s 34 (ρ1,cmpF (s.2.2 537395204) (wn 4294967295),s.2.2):=g1
 have ho:wn 4294967295=4294967295:=rfl
 rw[ho] at g1
 refine⟨ρ1,cmpF (s.2.2 537395204) 4294967295,?_⟩
 have b1:stepI (goE n) false 34 (ρ1,cmpF (s.2.2 537395204) 4294967295,s.2.2)=(false,(bif s.2.2 537395204==4294967295 then 35 else 51),(ρ1,cmpF (s.2.2 537395204) 4294967295,s.2.2)):=by
  rw[step_br (go_b34 n)]
  show(bif goesF (cmpF (s.2.2 537395204) 4294967295) 25 1 then _ else _)=_
  rw[goes_neF]
  unfold bne
  cases (s.2.2 537395204==4294967295)<;>rfl
 exact g1.trans (go_cons b1 (by show(34:Nat)≠51;omega) (GoTo.refl _ _ _))
theorem okW_rails:(goE n).okW (537133056+0)=true∧(goE n).okW (537395200+0)=true:=by
 have:=hs
 exact⟨rfl,rfl⟩
theorem g_16 (s:IS):∃s',GoTo (goE n) 11 0 16 s 49 s':=by
 obtain⟨ρ1,e1⟩:=set_exec (goE n) 0 (qn 1) (qn 1) s (.inl rfl) (okW_rails hs).1 (okW_rails hs).2
 have g1:=execL_go (setI ((0:Nat):Int) (qn 1) (qn 1)) 16 _ _ (go_s16 n) (fun i hi=>by
  have hi:i<10:=hi
  show 16+i≠51
  omega) e1
 exact⟨_,(show GoTo (goE n) 10 0 16 s 26 _ from g1).trans (go_cons (step_b (go_b26 n) _) (by show(26:Nat)≠51;omega) (GoTo.refl _ _ _))⟩
theorem g_35 (s:IS):∃s',GoTo (goE n) 11 0 35 s 47 s':=by
 obtain⟨ρ1,e1⟩:=set_exec (goE n) 0 (qn 0) (qn 0) s (.inl rfl) (okW_rails hs).1 (okW_rails hs).2
 have g1:=execL_go (setI ((0:Nat):Int) (qn 0) (qn 0)) 35 _ _ (go_s35 n) (fun i hi=>by
  have hi:i<10:=hi
  show 35+i≠51
  omega) e1
 exact⟨_,(show GoTo (goE n) 10 0 35 s 45 _ from g1).trans (go_cons (step_b (go_b45 n) _) (by show(45:Nat)≠51;omega) (GoTo.refl _ _ _))⟩
omit hs in
theorem g_bk (j:Nat) (h1:47≤j) (h2:j<53):isBk (goE n) j=true:=in_range' (bk_all n) h1 (by omega)
omit hs in
theorem stY_bk (j:Nat) (h:stY j=true):isBk (goE n) j=true:=by
 unfold stY at h
 simp only[Bool.or_eq_true,beq_iff_eq] at h
 rcases h with rfl |rfl |rfl |rfl<;>exact g_bk _ (by omega) (by omega)
omit hs in
theorem stN_bk (j:Nat) (h:stN j=true):isBk (goE n) j=true:=by
 unfold stN at h
 simp only[Bool.or_eq_true,beq_iff_eq] at h
 rcases h with rfl |rfl |rfl |rfl<;>exact g_bk _ (by omega) (by omega)
omit hs in
theorem end_at {k c j:Nat} {s s':IS} (g:GoTo (goE n) k c 0 s j s') (h1:47≤j) (h2:j<53):∃c' s'',goN (goE n) (k+1) (false,0,s)=(k+1,c',true,j,s''):=by
 obtain⟨c1,g1⟩:=goN_one (bk_step (g_bk j h1 h2) s').1
 exact⟨_,_,goN_then g g1⟩
theorem go_run (s:IS):∃K c s',K≤40∧goN (goE n) K (false,0,s)=(K,c,true,(bif s.2.2 537133060==4294967295 then(bif s.2.2 537395204==4294967295 then 47 else 51) else bif s.2.2 537133060==0 then(bif s.2.2 537395204==0 then 49 else 51) else 51),s'):=by
 obtain⟨ρ1,F1,g1,v1⟩:=g_0 hs s
 cases hx:(s.2.2 537133060==4294967295)
 ·rw[hx,cond_false] at g1
  obtain⟨ρ2,F2,g2⟩:=g_7 hs (ρ1,F1,s.2.2)
  have g2:GoTo (goE n) 3 0 7 (ρ1,F1,s.2.2) (bif ρ1 0==0 then 10 else 51) (ρ2,F2,s.2.2):=g2
  rw[v1] at g2
  cases hz:(s.2.2 537133060==0)
  ·rw[hz,cond_false] at g2
   obtain⟨c,s',g⟩:=end_at (g1.trans g2) (by omega) (by omega)
   exact⟨_,c,s',by omega,g⟩
  ·rw[hz,cond_true] at g2
   obtain⟨ρ3,F3,g3⟩:=g_10 hs (ρ2,F2,s.2.2)
   have g3:GoTo (goE n) 6 0 10 (ρ2,F2,s.2.2) (bif s.2.2 537395204==0 then 16 else 51) (ρ3,F3,s.2.2):=g3
   cases hy:(s.2.2 537395204==0)
   ·rw[hy,cond_false] at g3
    obtain⟨c,s',g⟩:=end_at ((g1.trans g2).trans g3) (by omega) (by omega)
    exact⟨_,c,s',by omega,g⟩
   ·rw[hy,cond_true] at g3
    obtain⟨s4,g4⟩:=g_16 hs (ρ3,F3,s.2.2)
    obtain⟨c,s',g⟩:=end_at (((g1.trans g2).trans g3).trans g4) (by omega) (by omega)
    exact⟨_,c,s',by omega,g⟩
 ·rw[hx,cond_true] at g1
  obtain⟨ρ2,F2,g2⟩:=g_28 hs (ρ1,F1,s.2.2)
  have g2:GoTo (goE n) 7 0 28 (ρ1,F1,s.2.2) (bif s.2.2 537395204==4294967295 then 35 else 51) (ρ2,F2,s.2.2):=g2
  cases hy:(s.2.2 537395204==4294967295)
  ·rw[hy,cond_false] at g2
   obtain⟨c,s',g⟩:=end_at (g1.trans g2) (by omega) (by omega)
   exact⟨_,c,s',by omega,g⟩
  ·rw[hy,cond_true] at g2
   obtain⟨s3,g3⟩:=g_35 hs (ρ2,F2,s.2.2)
   obtain⟨c,s',g⟩:=end_at ((g1.trans g2).trans g3) (by omega) (by omega)
   exact⟨_,c,s',by omega,g⟩
theorem mid_of {m p K j':Nat} {s s':IS} (g:GoTo (goE n) K 0 p s j' s') (h:((List.range' p m).all fun j=>sucIn (goE n) (fun x=>x==j+1||x==51) j&&noStr (goE n) j)=true) (hK:K=m+1):∀t,t<K→∃st,GoTo (goE n) t 0 p s (p+t) st∧st.2.2=s.2.2:=by
 have:=hs
 refine line_mid g (fun t ht=>?_) (fun t ht=>?_)
 ·have:=in_range' h (j:=p+t) (by omega) (by omega)
  rw[Bool.and_eq_true] at this
  exact this.1
 ·have:=in_range' h (j:=p+t) (by omega) (by omega)
  rw[Bool.and_eq_true] at this
  exact this.2
theorem mid_of' {m p K j':Nat} {s s':IS} (g:GoTo (goE n) K 0 p s j' s') (h:((List.range' p m).all fun j=>sucIn (goE n) (fun x=>x==j+1||x==51) j)=true) (hK:K=m+1):∀t,t<K→∃st,GoTo (goE n) t 0 p s (p+t) st:=by
 have:=hs
 refine line_mid' g (fun t ht=>?_)
 exact in_range' h (j:=p+t) (by omega) (by omega)
theorem go_faultY (f:tFault.den) (s:IS) (hx:s.2.2 537133060=4294967295) (hy:s.2.2 537395204=4294967295):∃K c s',K≤40∧goN (goE n) K (false,0,s)=(K,c,true,47,s')∧∀T,T<K→∃jt st,GoTo (goE n) T 0 0 s jt st∧EndsIn (goE n) 60 stY (stepI (goE n) (f.1==(1:Int)) jt (hitI f st)):=by
 obtain⟨ρ1,F1,g1,v1⟩:=g_0 hs s
 rw[hx] at g1
 have g1:GoTo (goE n) 7 0 0 s 28 (ρ1,F1,s.2.2):=g1
 obtain⟨ρ2,F2,g2⟩:=g_28 hs (ρ1,F1,s.2.2)
 have g2:GoTo (goE n) 7 0 28 (ρ1,F1,s.2.2) (bif s.2.2 537395204==4294967295 then 35 else 51) (ρ2,F2,s.2.2):=g2
 rw[hy] at g2
 have g2:GoTo (goE n) 7 0 28 (ρ1,F1,s.2.2) 35 (ρ2,F2,s.2.2):=g2
 obtain⟨s3,g3⟩:=g_35 hs (ρ2,F2,s.2.2)
 obtain⟨c,s',g⟩:=end_at ((g1.trans g2).trans g3) (by omega) (by omega)
 refine⟨_,c,s',by omega,g,fun T hT=>?_⟩
 have hT:T<26:=hT
 have hb:∀j,stY j=true→isBk (goE n) j=true:=stY_bk
 have late:∀j st,28≤j→j<48→EndsIn (goE n) 60 stY (stepI (goE n) (f.1==(1:Int)) j (hitI f st)):=fun j st h1 h2=>endsIn_mono (ftE_ok rfl hb (in_range' (go_ftY n) h1 (by omega)) _ _) (by omega) (fun _ h=>h)
 rcases Nat.lt_or_ge T 7 with h7 |h7
 ·obtain⟨st,gt,ht⟩:=mid_of hs g1 (m:=6) (go_l0 n) rfl T h7
  rw[Nat.zero_add] at gt
  refine⟨T,st,gt,?_⟩
  obtain⟨k,j',s4,hk,g4,hst,hm⟩:=ftR_ok (stop:=stA) rfl (List.all_eq_true.1 (go_ftA n) T (List.mem_range.2 h7)) (f.1==(1:Int)) (hitI f st)
  rw[hit_mem,ht] at hm
  unfold stA at hst
  simp only[Bool.or_eq_true,beq_iff_eq] at hst
  rcases hst with rfl |rfl |rfl
  ·exact endsIn_mono (endsIn_on g4 (ctl_end rfl hb (go_cY n) s4)) (by omega) (fun _ h=>h)
  ·obtain⟨ρ5,F5,g5⟩:=g_10 hs s4
   rw[hm,hy] at g5
   have g5:GoTo (goE n) 6 0 10 s4 51 (ρ5,F5,s.2.2):=g5
   exact endsIn_mono (endsIn_on g4 (endsIn_go g5 (endsIn_bk (g_bk 51 (by omega) (by omega)) rfl _))) (by omega) (fun _ h=>h)
  ·exact endsIn_mono (endsIn_on g4 (endsIn_bk (g_bk 51 (by omega) (by omega)) rfl _)) (by omega) (fun _ h=>h)
 ·obtain⟨u,rfl⟩:∃u,T=7+u:=⟨T-7,by omega⟩
  rcases Nat.lt_or_ge u 7 with h14 |h14
  ·obtain⟨st,gt,_⟩:=mid_of hs g2 (m:=6) (go_l28 n) rfl u h14
   exact⟨28+u,st,by simpa using g1.trans gt,late _ st (by omega) (by omega)⟩
  ·obtain⟨v,rfl⟩:∃v,u=7+v:=⟨u-7,by omega⟩
   rcases Nat.lt_or_ge v 11 with h25 |h25
   ·obtain⟨st,gt⟩:=mid_of' hs g3 (m:=10) (go_l35 n) rfl v h25
    refine⟨35+v,st,?_,late _ st (by omega) (by omega)⟩
    have:=(g1.trans g2).trans gt
    rw[show 7+7+v=7+(7+v) by omega] at this
    exact this
   ·have:v=11:=by omega
    subst this
    refine⟨47,s3,?_,late _ s3 (by omega) (by omega)⟩
    exact(g1.trans g2).trans g3
theorem go_faultN (f:tFault.den) (s:IS) (hx:s.2.2 537133060=0) (hy:s.2.2 537395204=0):∃K c s',K≤40∧goN (goE n) K (false,0,s)=(K,c,true,49,s')∧∀T,T<K→∃jt st,GoTo (goE n) T 0 0 s jt st∧EndsIn (goE n) 60 stN (stepI (goE n) (f.1==(1:Int)) jt (hitI f st)):=by
 obtain⟨ρ1,F1,g1,v1⟩:=g_0 hs s
 rw[hx] at g1 v1
 have g1:GoTo (goE n) 7 0 0 s 7 (ρ1,F1,s.2.2):=g1
 obtain⟨ρ2,F2,g2⟩:=g_7 hs (ρ1,F1,s.2.2)
 have g2:GoTo (goE n) 3 0 7 (ρ1,F1,s.2.2) (bif ρ1 0==0 then 10 else 51) (ρ2,F2,s.2.2):=g2
 rw[v1] at g2
 have g2:GoTo (goE n) 3 0 7 (ρ1,F1,s.2.2) 10 (ρ2,F2,s.2.2):=g2
 obtain⟨ρ3,F3,g3⟩:=g_10 hs (ρ2,F2,s.2.2)
 have g3:GoTo (goE n) 6 0 10 (ρ2,F2,s.2.2) (bif s.2.2 537395204==0 then 16 else 51) (ρ3,F3,s.2.2):=g3
 rw[hy] at g3
 have g3:GoTo (goE n) 6 0 10 (ρ2,F2,s.2.2) 16 (ρ3,F3,s.2.2):=g3
 obtain⟨s4,g4⟩:=g_16 hs (ρ3,F3,s.2.2)
 obtain⟨c,s',g⟩:=end_at (((g1.trans g2).trans g3).trans g4) (by omega) (by omega)
 refine⟨_,c,s',by omega,g,fun T hT=>?_⟩
 have hT:T<28:=hT
 have hb:∀j,stN j=true→isBk (goE n) j=true:=stN_bk
 have late:∀j st,16≤j→j<27→EndsIn (goE n) 60 stN (stepI (goE n) (f.1==(1:Int)) j (hitI f st)):=fun j st h1 h2=>endsIn_mono (ftE_ok rfl hb (in_range' (go_ftN n) h1 (by omega)) _ _) (by omega) (fun _ h=>h)
 have early:∀j (st:IS),j<16→st.2.2=s.2.2→EndsIn (goE n) 60 stN (stepI (goE n) (f.1==(1:Int)) j (hitI f st)):=fun j st hj ht=>by
  obtain⟨k,j',s5,hk,g5,hst,hm⟩:=ftR_ok (stop:=stB) rfl (List.all_eq_true.1 (go_ftB n) j (List.mem_range.2 hj)) (f.1==(1:Int)) (hitI f st)
  rw[hit_mem,ht] at hm
  unfold stB at hst
  simp only[Bool.or_eq_true,beq_iff_eq] at hst
  rcases hst with rfl |rfl |rfl
  ·obtain⟨ρ6,F6,g6⟩:=g_28 hs s5
   rw[hm,hy] at g6
   have g6:GoTo (goE n) 7 0 28 s5 51 (ρ6,F6,s.2.2):=g6
   exact endsIn_mono (endsIn_on g5 (endsIn_go g6 (endsIn_bk (g_bk 51 (by omega) (by omega)) rfl _))) (by omega) (fun _ h=>h)
  ·exact endsIn_mono (endsIn_on g5 (ctl_end rfl hb (go_cN n) s5)) (by omega) (fun _ h=>h)
  ·exact endsIn_mono (endsIn_on g5 (endsIn_bk (g_bk 51 (by omega) (by omega)) rfl _)) (by omega) (fun _ h=>h)
 rcases Nat.lt_or_ge T 7 with h7 |h7
 ·obtain⟨st,gt,ht⟩:=mid_of hs g1 (m:=6) (go_l0 n) rfl T h7
  rw[Nat.zero_add] at gt
  exact⟨T,st,gt,early T st (by omega) ht⟩
 ·obtain⟨u,rfl⟩:∃u,T=7+u:=⟨T-7,by omega⟩
  rcases Nat.lt_or_ge u 3 with h10 |h10
  ·obtain⟨st,gt,ht⟩:=mid_of hs g2 (m:=2) (go_l7 n) rfl u h10
   exact⟨7+u,st,by simpa using g1.trans gt,early _ st (by omega) ht⟩
  ·obtain⟨v,rfl⟩:∃v,u=3+v:=⟨u-3,by omega⟩
   have g12:=g1.trans g2
   rcases Nat.lt_or_ge v 6 with h16 |h16
   ·obtain⟨st,gt,ht⟩:=mid_of hs g3 (m:=5) (go_l10 n) rfl v h16
    refine⟨10+v,st,?_,early _ st (by omega) ht⟩
    rw[show 7+(3+v)=7+3+v by omega]
    exact g12.trans gt
   ·obtain⟨w,rfl⟩:∃w,v=6+w:=⟨v-6,by omega⟩
    have g123:=g12.trans g3
    rcases Nat.lt_or_ge w 11 with h27 |h27
    ·obtain⟨st,gt⟩:=mid_of' hs g4 (m:=10) (go_l16 n) rfl w h27
     refine⟨16+w,st,?_,late _ st (by omega) (by omega)⟩
     rw[show 7+(3+(6+w))=7+3+6+w by omega]
     exact g123.trans gt
    ·have:w=11:=by omega
     subst this
     exact⟨49,s4,g123.trans g4,endsIn_mono (ftE_ok rfl hb (go_ftN2 n) _ _) (by omega) (fun _ h=>h)⟩
end
theorem loop8G (x:shDens qbg.ss) (f:tFault.den) (base l:List tItem.den) (hb:base.length+l.length≤1000) (hx1:x.2.2.2.1=base) (hx2:x.2.2.2.2.2.1=l) (hx3:x.2.2.2.2.2.2=0):LoopN.res qbg x f=some (0,(base++l,(l.length:Int),f)):=by
 obtain⟨x1,x2,x4,x5,x6,x7,x8⟩:=x
 dsimp only at hx1 hx2 hx3
 subst hx1 hx2 hx3
 unfold LoopN.res
 have key:runL (qbg.turn (x1,x2,x4,x5,x6,x7,0) f) (x7.length+1) (x5++x7.take 0,((0:Nat):Int),f)=some (0,(x5++x7,(x7.length:Int),f)):=?_
 ·rw[List.take_zero,List.append_nil] at key
  exact key
 refine runL_count (turn:=qbg.turn (x1,x2,x4,x5,x6,x7,0) f) (fun n=>(x5++x7.take n,(n:Int),f)) (0,(x5++x7,(x7.length:Int),f)) (n:=x7.length) (fun n hn=>?_) ?_ x7.length 0 (by omega) _ (Nat.lt_succ_self _)
 ·have hg:List.getD x7 (Int.toNat (n:Int)) (Ty.dflt tItem)=x7[n]:=getD_in x7 _ hn
  have hw:w64 ((n:Int)+1)=((n+1:Nat):Int):=by rw[w64_id (by omega) (by omega)];omega
  refine(val_yes (dec_true (show(n:Int)<lenI x7 by simp only[lenI];omega))).trans ((val_yes (inR hn)).trans ?_)
  dsimp only
  rw[hg,hw]
  refine(val_yes ?_).trans ?_
  ·rw[Nat.ble_eq,List.length_append,List.length_take]
   show(_+1)*80≤_
   omega
  ·rw[List.take_succ_eq_append_getElem hn,List.append_assoc]
   rfl
 ·refine(val_no (dec_false (show ¬((x7.length:Nat):Int)<lenI x7 by simp only[lenI];omega))).trans ?_
  dsimp only
  rw[List.take_length]
  rfl
theorem br_val:qb5 ((2,0,0,1,()),7,2)=(branchL false 4 7 2 (jmpL false 1) (jmpL false 0),0,()):=by
 have ht:qbs 0=4:=temp_fr 0 (by omega) (by omega)
 show(branchL false (qbs 0) 7 2 (jmpL false 1) (jmpL false 0),(0:Int),())=_
 rw[ht]
def wantG (x y:Nat):Int:=bif x==4294967295&&y==4294967295 then 0 else bif x==0&&y==0 then 1 else 2
theorem go_where (a b:Int) :
  (∀f,qp f=0→(10≤(show Int from f.2.1)∨f=noFault)→qP (its (setI ((4:Nat):Int) a b)++goH,f,3)=true) ∧
  qu (its (setI ((4:Nat):Int) a b)++goH,noFault,3)=wantG (wn a) (wn b) ∧
  ∀f,qp f=0→10≤(show Int from f.2.1)→wantG (wn a) (wn b)≠2→qu (its (setI ((4:Nat):Int) a b)++goH,f,3)=wantG (wn a) (wn b)∨qu (its (setI ((4:Nat):Int) a b)++goH,f,3)=2:=by
 obtain⟨n,s1,hs,hA,hB,hW⟩:=where_part (off:=4) a b (.inr rfl) go_ok (go_pos a b) (fun p hp hp3=>by
  simp only[List.mem_cons,List.not_mem_nil,or_false] at hp
  rw[go_P]
  rcases hp with rfl |rfl |rfl |rfl
  ·exfalso
   have:(7:Int)<3:=hp3
   omega
  ·exact⟨0,rfl⟩
  ·exact⟨1,rfl⟩
  ·exact⟨2,rfl⟩)
 have hE:whereE goH n=goE n:=by
  unfold whereE goE
  rw[go_P,go_c]
 rw[hE] at hW
 have hA:s1.2.2 537133060=wn a:=hA
 have hB:s1.2.2 537395204=wn b:=hB
 generalize wn a=x at *
 generalize wn b=y at *
 refine⟨fun f hf hfs=>(hW f hf hfs).1,?_,fun f hf hfs hw=>?_⟩
 ·obtain⟨K,c,s',hK,hrun⟩:=go_run hs s1
  rw[hA,hB] at hrun
  rw[(hW noFault noF_check (.inr rfl)).2,goI_none]
  obtain⟨d,hd⟩:∃d,390=K+d:=⟨390-K,by omega⟩
  rw[hd,goN_add,hrun,goN_done _ d rfl]
  dsimp only
  unfold wantG
  cases hx:(x==4294967295)
  ·cases (x==0)
   ·rfl
   ·cases (y==0)<;>rfl
  ·have hx0:(x==0)=false:=by
    have:=beq_iff_eq.1 hx
    exact beq_eq_false_iff_ne.2 (by omega)
   rw[hx0]
   cases (y==4294967295)<;>rfl
 ·rw[(hW f hf (.inl hfs)).2]
  unfold wantG at *
  cases hxy:(x==4294967295&&y==4294967295)
  ·rw[hxy,cond_false] at hw
   rw[cond_false]
   cases hz:(x==0&&y==0)
   ·rw[hz] at hw
    exact(hw rfl).elim
   ·rw[cond_true]
    rw[Bool.and_eq_true,beq_iff_eq,beq_iff_eq] at hz
    obtain⟨K,c,s',hK,hrun,hft⟩:=go_faultN hs f s1 (by rw[hA];exact hz.1) (by rw[hB];exact hz.2)
    obtain⟨g1,g2⟩:=goI_ends f stN 10 K 60 390 s1 hrun rfl (fun T c j st hg hT=>by
     obtain⟨jt,st',g,he⟩:=hft T hT
     obtain⟨e1,e2⟩:=go_same hg g
     rw[e1,e2]
     exact he) hfs (by omega)
    have g1:(goI (goE n) f 390 10 (false,0,s1)).2.2.1=true:=g1
    have g2:stN (goI (goE n) f 390 10 (false,0,s1)).2.2.2.1=true:=g2
    rw[g1,cond_true]
    unfold stN at g2
    simp only[Bool.or_eq_true,beq_iff_eq] at g2
    rcases g2 with h |h |h |h<;>rw[h]
    ·exact .inl rfl
    ·exact .inl rfl
    ·exact .inr rfl
    ·exact .inr rfl
  ·rw[cond_true]
   rw[Bool.and_eq_true,beq_iff_eq,beq_iff_eq] at hxy
   obtain⟨K,c,s',hK,hrun,hft⟩:=go_faultY hs f s1 (by rw[hA];exact hxy.1) (by rw[hB];exact hxy.2)
   obtain⟨g1,g2⟩:=goI_ends f stY 10 K 60 390 s1 hrun rfl (fun T c j st hg hT=>by
    obtain⟨jt,st',g,he⟩:=hft T hT
    obtain⟨e1,e2⟩:=go_same hg g
    rw[e1,e2]
    exact he) hfs (by omega)
   have g1:(goI (goE n) f 390 10 (false,0,s1)).2.2.1=true:=g1
   have g2:stY (goI (goE n) f 390 10 (false,0,s1)).2.2.2.1=true:=g2
   rw[g1,cond_true]
   unfold stY at g2
   simp only[Bool.or_eq_true,beq_iff_eq] at g2
   rcases g2 with h |h |h |h<;>rw[h]
   ·exact .inl rfl
   ·exact .inl rfl
   ·exact .inr rfl
   ·exact .inr rfl
theorem qj7 (x:dens q6) (_:fitsAll maxLen q6 x):(qem x).val=some true:=by
 obtain⟨a,b,f⟩:=x
 unfold qem
 dsimp only
 rw[br_val]
 dsimp only
 refine(val_yes rfl).trans ((val_yes rfl).trans ((val_yes rfl).trans ?_))
 cases hck:(qp f != (0:Int))
 ·have hf:qp f=0:=by simpa using hck
  obtain⟨w1,w2,w3⟩:=go_where a b
  have hW:its (setI ((4:Nat):Int) a b)++branchL false 4 7 2 (jmpL false 1) (jmpL false 0)++endL 0++endL 1++endL 2=its (setI ((4:Nat):Int) a b)++goH:=by
   rw[List.append_assoc,List.append_assoc,List.append_assoc]
   rfl
  have hbl:(branchL false 4 7 2 (jmpL false 1) (jmpL false 0)).length=48:=by kernel_rfl
  have hloop:=loop8G (a,b,(),its (setI ((4:Nat):Int) a b),10,branchL false 4 7 2 (jmpL false 1) (jmpL false 0),0) f (its (setI ((4:Nat):Int) a b)) (branchL false 4 7 2 (jmpL false 1) (jmpL false 0)) (by
   have e1:(its (setI ((4:Nat):Int) a b)).length=10:=rfl
   omega) rfl rfl rfl
  have hlen:(its (setI ((4:Nat):Int) a b)++branchL false 4 7 2 (jmpL false 1) (jmpL false 0)).length=58:=by
   rw[List.length_append,hbl]
   rfl
  refine(val_no rfl).trans ((val_opt hloop).trans ?_)
  dsimp only
  have hW2:its (setI ((4:Nat):Int) a b)++branchL false 4 7 2 (jmpL false 1) (jmpL false 0)++[((1:Int),(0:Int),((0:Int),(0:Int),(0:Int),(0:Int),(0:Int),(0:Int),(0:Int),false,()),()),(0,0,(2,0,0,0,0,0,0,false,()),()),(0,0,(2,0,0,0,0,0,0,false,()),())]++[(1,1,(0,0,0,0,0,0,0,false,()),()),(0,0,(2,0,0,0,0,1,0,false,()),()),(0,0,(2,0,0,0,0,1,0,false,()),())]++[(1,2,(0,0,0,0,0,0,0,false,()),()),(0,0,(2,0,0,0,0,2,0,false,()),()),(0,0,(2,0,0,0,0,2,0,false,()),())]=its (setI ((4:Nat):Int) a b)++goH:=hW
  rw[hW2]
  have hn:((0,0,0,0,()):tFault.den)=noFault:=rfl
  rw[hn]
  have ht:∀(v:Int) (c:Nat),(band IntKind.i64 v 4294967295==(c:Int))=(wn v==c):=fun v c=>by
   rw[band_wn,Bool.eq_iff_iff,beq_iff_eq,beq_iff_eq]
   omega
  have h1:∀v:Int,(band IntKind.i64 v 4294967295==4294967295)=(wn v==4294967295):=fun v=>ht v 4294967295
  have h0:∀v:Int,(band IntKind.i64 v 4294967295==0)=(wn v==0):=fun v=>ht v 0
  rw[h1 a,h1 b,h0 a,h0 b]
  refine(val_yes ?_).trans ((val_yes ?_).trans ((val_yes ?_).trans ((val_yes (w1 noFault noF_check (.inr rfl))).trans ?_)))
  ·rw[Nat.ble_eq,hlen]
   show(58+3)*80≤_
   omega
  ·rw[Nat.ble_eq,List.length_append,hlen]
   show(58+3+3)*80≤_
   omega
  ·rw[Nat.ble_eq,List.length_append,List.length_append,hlen]
   show(58+3+3+3)*80≤_
   omega
  ·rw[w2]
   cases hA:(wn a==4294967295&&wn b==4294967295)
   ·cases hB:(wn a==0&&wn b==0)
    ·have e:wantG (wn a) (wn b)=2:=by unfold wantG;rw[hA,hB];rfl
     rw[e]
     exact(val_no rfl).trans ((val_yes rfl).trans rfl)
    ·have e:wantG (wn a) (wn b)=1:=by unfold wantG;rw[hA,hB];rfl
     rw[e] at w3 ⊢
     refine(val_no rfl).trans ?_
     cases hst:(decide ((show Int from f.2.1)<10)||decide ((show Int from f.2.1) > 1000))
     ·have hst:=hst
      simp only[Bool.or_eq_false_iff,decide_eq_false_iff_not] at hst
      have h10:10≤(show Int from f.2.1):=Int.not_lt.1 hst.1
      refine(val_no rfl).trans ((val_yes (w1 f hf (.inl h10))).trans ?_)
      rcases w3 f hf h10 (by decide) with h |h
      ·rw[h]
       exact(val_yes rfl).trans rfl
      ·rw[h]
       exact(val_yes rfl).trans rfl
     ·exact(val_yes rfl).trans rfl
   ·have e:wantG (wn a) (wn b)=0:=by unfold wantG;rw[hA];rfl
    rw[e] at w3 ⊢
    refine(val_no rfl).trans ?_
    cases hst:(decide ((show Int from f.2.1)<10)||decide ((show Int from f.2.1) > 1000))
    ·have hst:=hst
     simp only[Bool.or_eq_false_iff,decide_eq_false_iff_not] at hst
     have h10:10≤(show Int from f.2.1):=Int.not_lt.1 hst.1
     refine(val_no rfl).trans ((val_yes (w1 f hf (.inl h10))).trans ?_)
     rcases w3 f hf h10 (by decide) with h |h
     ·rw[h]
      exact(val_yes rfl).trans rfl
     ·rw[h]
      exact(val_yes rfl).trans rfl
    ·exact(val_yes rfl).trans rfl
 ·exact(val_yes rfl).trans ((val_yes rfl).trans rfl)
end Go.Av
end
