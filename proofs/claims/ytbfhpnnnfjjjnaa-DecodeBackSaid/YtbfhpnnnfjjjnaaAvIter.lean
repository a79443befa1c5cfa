/- Loops and functions by what they come to: trees of tests that may fail, and loops by what one turn does. -/
import Derived.Test.YtbfhpnnnfjjjnaaAvBits
namespace Go.Av
open Go

/-- A number of 64 bits with a sign. -/
abbrev w64 (n : Int) : Int := IntKind.i64.wrap n

/-- A list's length, a byte, as a number. -/
abbrev lenI {α : Type} (l : List α) : Int := ((List.length l : Nat) : Int)
abbrev u8I (b : UInt8) : Int := ((UInt8.toNat b : Nat) : Int)

/-! ### Trees of tests that may fail -/

inductive PO (α : Type) : Type 1 where
  | ret (a : α)
  | fail
  | ite (b : Bool) (t e : PO α)
  | opt {β : Type} (o : Option β) (k : β → PO α)

namespace PO
def run {α γ : Type} (k : α → Option γ) : PO α → Option γ
  | .ret a => k a
  | .fail => none
  | .ite b t e => bif b then t.run k else e.run k
  | .opt o f => match o with
    | none => none
    | some x => (f x).run k

def val {α : Type} : PO α → Option α
  | .ret a => some a
  | .fail => none
  | .ite b t e => bif b then t.val else e.val
  | .opt o f => match o with
    | none => none
    | some x => (f x).val

theorem run_val {α γ : Type} (k : α → Option γ) : ∀ t : PO α, t.run k = t.val.bind k
  | .ret _ => rfl
  | .fail => rfl
  | .ite b t e => by
    simp only [run, val, run_val k t, run_val k e]
    cases b <;> rfl
  | .opt o f => by
    cases o with
    | none => rfl
    | some x => simp only [run, val, run_val k (f x)]

/-- The end, or something else where it is not reached. -/
def getO {α : Type} (d : α) (t : PO α) : α := t.val.getD d
theorem getO_ok {α : Type} (d : α) {t : PO α} (h : t.val.isSome = true) : t.val = some (t.getO d) := by
  unfold getO
  cases e : t.val with
  | none => rw [e] at h; cases h
  | some a => rfl

/-- Every end is reached. -/
def sure {α : Type} : PO α → Prop
  | .ret _ => True
  | .fail => False
  | .ite _ t e => t.sure ∧ e.sure
  | .opt _ _ => False

theorem sure_ok {α : Type} (d : α) : ∀ {t : PO α}, t.sure → t.val = some (t.getO d)
  | .ret _, _ => rfl
  | .fail, h => h.elim
  | .ite b t e, h => by
    cases b
    · exact sure_ok (t := e) d h.2
    · exact sure_ok (t := t) d h.1
  | .opt _ _, h => h.elim

/-- Every end that may be come to is reached. -/
def tots {α : Type} : PO α → Prop
  | .ret _ => True
  | .fail => False
  | .ite b t e => (b = true → t.tots) ∧ (b = false → e.tots)
  | .opt _ _ => False

theorem tots_ok {α : Type} (d : α) : ∀ {t : PO α}, t.tots → t.val = some (t.getO d)
  | .ret _, _ => rfl
  | .fail, h => h.elim
  | .ite b t e, h => by
    cases b
    · exact tots_ok (t := e) d (h.2 rfl)
    · exact tots_ok (t := t) d (h.1 rfl)
  | .opt _ _, h => h.elim

/-- One test behind another. -/
def bind {α β : Type} (t : PO α) (f : α → PO β) : PO β :=
  match t with
  | .ret a => f a
  | .fail => .fail
  | .ite b t e => .ite b (t.bind f) (e.bind f)
  | .opt o k => .opt o fun x => (k x).bind f

theorem bind_val {α β : Type} (f : α → PO β) : ∀ t : PO α, (t.bind f).val = t.val.bind fun a => (f a).val
  | .ret _ => rfl
  | .fail => rfl
  | .ite b t e => by
    simp only [bind, val, bind_val f t, bind_val f e]
    cases b <;> rfl
  | .opt o k => by
    cases o with
    | none => rfl
    | some x => simp only [bind, val, bind_val f (k x)]
end PO

/-! ### Loops -/

/-- What a turn comes to: on, or out by a way. -/
inductive TL (σ : Type) where
  | on (s : σ)
  | out (c : Nat) (s : σ)

/-- A loop, turn by turn: by which way it is left, and what is left then. -/
def runL {σ : Type} (turn : σ → PO (TL σ)) : Nat → σ → Option (Nat × σ)
  | 0, _ => none
  | n + 1, s => match (turn s).val with
    | none => none
    | some (.on s') => runL turn n s'
    | some (.out c s') => some (c, s')

theorem runL_on {σ : Type} {turn : σ → PO (TL σ)} {n : Nat} {s s' : σ} (h : (turn s).val = some (.on s')) : runL turn (n + 1) s = runL turn n s' := by
  simp only [runL, h]

theorem runL_out {σ : Type} {turn : σ → PO (TL σ)} {n : Nat} {s s' : σ} {c : Nat} (h : (turn s).val = some (.out c s')) : runL turn (n + 1) s = some (c, s') := by
  simp only [runL, h]

/-- More turns do no harm. -/
theorem runL_more {σ : Type} {turn : σ → PO (TL σ)} {r : Nat × σ} : ∀ {n m : Nat} {s : σ}, n ≤ m → runL turn n s = some r → runL turn m s = some r
  | 0, _, _, _, h => by cases h
  | n + 1, m, s, hm, h => by
    obtain ⟨m, rfl⟩ : ∃ k, m = k + 1 := ⟨m - 1, by omega⟩
    simp only [runL] at h ⊢
    cases e : (turn s).val with
    | none => rw [e] at h; cases h
    | some l =>
      rw [e] at h
      cases l with
      | on s' => exact runL_more (by omega) h
      | out c s' => exact h

def way (i : Nat) : Bool := Nat.beq i 0
def prd (i : Nat) : Nat := i - 1

def pickE {α : Type} : List Exit → Nat → (Exit → Option α) → Option α
  | [], _, _ => none
  | [e], _, k => k e
  | e :: e' :: l, i, k => bif way i then k e else pickE (e' :: l) (prd i) k

structure LoopN where
  M : List Nat
  T : List Nat
  D : List Nat
  ss : List Sh
  hs : List Sh
  es : List Exit
  σ : Type
  x0 : shDens ss → shDens hs → σ
  put : shDens ss → shDens hs → σ → shDens ss × shDens hs
  turn : shDens ss → shDens hs → σ → PO (TL σ)
  fuel : shDens ss → shDens hs → Nat

namespace LoopN
variable (L : LoopN)
abbrev vals (x : shDens L.ss) (y : shDens L.hs) (s : L.σ) : List AV := savs L.ss (L.put x y s).1
abbrev heap (x : shDens L.ss) (y : shDens L.hs) (s : L.σ) : Heap := enum 0 (savs L.hs (L.put x y s).2)
/-- Between two turns: tags by their order, boxes of the turn struck. -/
def mid (x : shDens L.ss) (y : shDens L.hs) (s : L.σ) : List AV × Heap :=
  let h := below 32 (L.heap x y s)
  let ts := addNew [] (allRows (L.vals x y s) ++ heapRows h)
  ((L.vals x y s).map (·.ren (tagAt ts) (boxLt 32)), mapV (·.ren (tagAt ts) (boxLt 32)) h)
def bsOf (p : List AV × Heap) : List Nat := reach p.2 4 (addNew [] ((allBoxes p.1).filter (hasBox p.2)))
def tsOf (p : List AV × Heap) : List Nat := addNew [] (allRows p.1 ++ contentRows p.2 (bsOf p))
/-- What is done behind the turns that follow. -/
def aft (x : shDens L.ss) (y : shDens L.hs) (s : L.σ) (K : Exit → List AV → Heap → Nat → Option R) : Exit → List AV → Heap → Nat → Option R :=
  afterT L.D L.M 64 (tsOf (L.mid x y s)) (bsOf (L.mid x y s)) (L.mid x y s).2 K
/-- What is left behind the loop: slots that do not matter struck, tags by their order. -/
def outs (x : shDens L.ss) (y : shDens L.hs) (s : L.σ) : List AV :=
  let v := blank L.D L.M (L.vals x y s)
  v.map (·.ren (tagAt (addNew [] (allRows v ++ heapRows (below 32 (L.heap x y s))))) (boxLt 32))
def houts (x : shDens L.ss) (y : shDens L.hs) (s : L.σ) : Heap :=
  mapV (·.ren (tagAt (addNew [] (allRows (blank L.D L.M (L.vals x y s)) ++ heapRows (below 32 (L.heap x y s))))) (boxLt 32)) (below 32 (L.heap x y s))
def res (x : shDens L.ss) (y : shDens L.hs) : Option (Nat × L.σ) := runL (L.turn x y) (L.fuel x y) (L.x0 x y)
def toT : LoopT := { M := L.M, T := L.T, D := L.D, ss := L.ss, hs := L.hs, F := fun x y K => match L.res x y with
  | none => none
  | some p => pickE L.es p.1 fun e => K e (L.outs x y p.2) (L.houts x y p.2) }
end LoopN

theorem pickE_congr {α : Type} {k k' : Exit → Option α} (h : ∀ e, k e = k' e) : ∀ (es : List Exit) (i : Nat), pickE es i k = pickE es i k'
  | [], _ => rfl
  | [e], _ => h e
  | e :: e' :: l, i => by simp only [pickE, h, pickE_congr h (e' :: l)]

theorem runL_iter {L : LoopN} {step : Step} (x : shDens L.ss) (y : shDens L.hs)
    (ht : ∀ s m K, iterT L.D L.M step (m + 1) (L.vals x y s) (L.heap x y s) 64 K =
      (L.turn x y s).run fun p => match p with
        | .on s' => iterT L.D L.M step m (L.vals x y s') (L.heap x y s') 64 (L.aft x y s' K)
        | .out c s' => pickE L.es c fun e => K e (L.outs x y s') (L.houts x y s') 64)
    (ha : ∀ s s' K e, L.aft x y s K e (L.outs x y s') (L.houts x y s') 64 = K e (L.outs x y s') (L.houts x y s') 64) :
    ∀ (n : Nat) (s : L.σ) (p : Nat × L.σ) (K : Exit → List AV → Heap → Nat → Option R), runL (L.turn x y) n s = some p →
      iterT L.D L.M step n (L.vals x y s) (L.heap x y s) 64 K = pickE L.es p.1 fun e => K e (L.outs x y p.2) (L.houts x y p.2) 64
  | 0, _, _, _, hn => by cases hn
  | n + 1, s, p, K, hn => by
    rw [ht, PO.run_val]
    simp only [runL] at hn
    cases e : (L.turn x y s).val with
    | none => rw [e] at hn; cases hn
    | some l =>
      rw [e] at hn
      cases l with
      | on s' => exact (runL_iter x y ht ha n s' p _ hn).trans (pickE_congr (fun e => ha s' p.2 K e) _ _)
      | out c s' => cases hn; rfl

theorem Good.loopN {C : Ctx} (h : Good C) {f : FuncId} {r : Nat} (L : LoopN) (d unroll : Nat) (h1 : oneLoop C.P f r = true)
    (hp : ∀ x y, L.put x y (L.x0 x y) = (x, y))
    (ht : ∀ x y s m K, iterT L.D L.M (stepL C (evF C drawOk unroll d) drawOk f (theNt C.P f) unroll (theLoop C.P f r) L.M L.T) (m + 1) (L.vals x y s) (L.heap x y s) 64 K =
      (L.turn x y s).run fun p => match p with
        | .on s' => iterT L.D L.M (stepL C (evF C drawOk unroll d) drawOk f (theNt C.P f) unroll (theLoop C.P f r) L.M L.T) m (L.vals x y s') (L.heap x y s') 64 (L.aft x y s' K)
        | .out c s' => pickE L.es c fun e => K e (L.outs x y s') (L.houts x y s') 64)
    (ha : ∀ x y s s' K e, L.aft x y s K e (L.outs x y s') (L.houts x y s') 64 = K e (L.outs x y s') (L.houts x y s') 64) : Good (C.addLoop f r L.toT.toLoop) := by
  refine h.loop (L := L.toT) d unroll h1 ?_
  intro (x : shDens L.ss) (y : shDens L.hs) K r' hF
  change (match runL (L.turn x y) (L.fuel x y) (L.x0 x y) with
    | none => none
    | some p => pickE L.es p.1 fun e => K e (L.outs x y p.2) (L.houts x y p.2) 64) = some r' at hF
  refine ⟨L.fuel x y, ?_⟩
  cases hr : runL (L.turn x y) (L.fuel x y) (L.x0 x y) with
  | none => rw [hr] at hF; cases hF
  | some p =>
    rw [hr] at hF
    have := runL_iter x y (ht x y) (ha x y) _ _ p K hr
    simp only [LoopN.vals, LoopN.heap] at this
    rw [hp] at this
    exact this.trans hF

/-- What is known of a function, from its walk, by a tree of tests. -/
theorem Good.fnP {C : Ctx} (h : Good C) {f : FuncId} {ts : List Ty} (s : Sh) (T : dens ts → PO s.den) (G : dens ts → Bool) (V : dens ts → s.den) (d unroll : Nat) (hb : hasBody C.P f = true)
    (hw : ∀ x, evF C drawOk unroll d f (avs ts x) [] 64 fin = (T x).run fun v => some (⟨s, v⟩, [], 64)) (hg : ∀ x, G x = true → (T x).val = some (V x)) : Good (C.addPlain f (plainT ts G s V)) := by
  refine h.fn d unroll hb (fun x hx => ?_)
  rw [hw, PO.run_val, hg x hx]
  rfl

end Go.Av
