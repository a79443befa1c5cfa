/- What the functions of the package tmpl, and of its reference, that a move needs do. -/
import Derived.Test.YtfdnniopghcngaaAvBits
import Derived.Test.YtfdnniopghcngaaProg
namespace Go.Proofs.Ytfdnniopghcngaa
open Go Go.Av Go.Proofs
abbrev insT : Ty := .pair (.int .i64) (.pair (.int .i64) (.pair (.int .i64) (.pair (.int .i64) (.pair (.int .i64) (.pair (.int .i64) (.pair (.int .i64) (.pair .bool .unit)))))))
abbrev slI : Ty := .sl insT
noncomputable def C0 : Ctx := baseC Try.prog [85]
theorem good0 : Good C0 := good_base (by kernel_rfl) (by kernel_rfl) (by kernel_rfl)

def sameM : List Nat := [0, 1, 4, 5]
def sameT : List Nat := [11,12,13,14,15,16,17,18,19,20,21,22,23,24,25]
noncomputable def step15 : Step := stepL C0 (evF C0 drawOk 40 3) drawOk 15 (theNt Try.prog 15) 40 (theLoop Try.prog 15 4) sameM sameT
abbrev st15 (a b : List insT.den) (i : Int) : List AV := savs [.ty slI, .ty slI, .ty .bool, .ty (.int .i64)] (a, b, false, i)
abbrev en15 (a b : List insT.den) : List AV := [⟨.ty slI, a⟩, ⟨.ty slI, b⟩, .bool false, .top]

theorem turn15 (m : Nat) (a b : List insT.den) (i : Int) (K : Exit → List AV → Heap → Nat → Option R) :
    iterT [5] sameM step15 (m + 1) (st15 a b i) [] 64 K =
      bif decide (i < (a.length : Int)) then
        bif inRange i a.length then
          bif inRange i b.length then
            bif !(insT.eqb (a.getD i.toNat insT.dflt) (b.getD i.toNat insT.dflt)) then K .ret (en15 a b) [] 64
            else iterT [5] sameM step15 m (st15 a b (IntKind.i64.wrap (i + 1))) [] 64 (afterT [5] sameM 320 [] [] [] K)
          else none
        else none
      else K (.exit 0) (en15 a b) [] 64 := by kernel_rfl

theorem after15 (K : Exit → List AV → Heap → Nat → Option R) (e : Exit) (a b : List insT.den) : afterT [5] sameM 320 [] [] [] K e (en15 a b) [] 64 = K e (en15 a b) [] 64 := by kernel_rfl

def sameOk (a b : List insT.den) : Bool := decide (a.length = b.length) && decide (a.length < 9223372036854775808)

def F15 (a b : List insT.den) (r : Bool) (i : Int) (K : Exit → List AV → Heap → Option R) : Option R :=
  bif decide (i = 0) && (!r && sameOk a b) then (bif eqL insT a b then K (.exit 0) (en15 a b) [] else K .ret (en15 a b) []) else none
def L15 : LoopT := { M := sameM, T := sameT, D := [5], ss := [.ty slI, .ty slI, .ty .bool, .ty (.int .i64)], hs := [], F := fun x _ K => F15 x.1 x.2.1 x.2.2.1 x.2.2.2 K }

noncomputable def C1 : Ctx := C0.addLoop 15 4 L15.toLoop
theorem good1 : Good C1 := by
  refine good0.loop (L := L15) 3 40 (by kernel_rfl) ?_
  rintro ⟨a, b, r, i⟩ ⟨⟩ K r' h
  simp only [L15, F15] at h
  cases hc : (decide (i = 0) && (!r && sameOk a b))
  · rw [hc] at h; cases h
  · rw [hc] at h
    simp only [sameOk, Bool.and_eq_true, decide_eq_true_eq, Bool.not_eq_true'] at hc
    obtain ⟨rfl, rfl, hl, hb⟩ := hc
    refine ⟨a.length + 1, ?_⟩
    have := same_loop (it := fun m i K => iterT [5] sameM step15 m (st15 a b i) [] 64 K) (kr := fun K => K .ret (en15 a b) [] 64) (ke := fun K => K (.exit 0) (en15 a b) [] 64) (af := afterT [5] sameM 320 [] [] []) (fun K => after15 K _ a b) (fun K => after15 K _ a b) (fun m i K => turn15 m a b i K) hl hb a.length 0 K (by omega)
    exact this.trans h


def T15 (x : dens [slI, slI]) : PT (Option Bool) := .ite ((x.1.length : Int) != (x.2.length : Int)) (.leaf (some false)) (.ite (sameOk x.1 x.2) (.ite (eqL insT x.1 x.2) (.leaf (some true)) (.leaf (some false))) (.leaf none))
def G15 (x : dens [slI, slI]) : Bool := decide (x.1.length < 9223372036854775808)
def V15 (x : dens [slI, slI]) : Bool := eqL insT x.1 x.2
theorem G15_ok (x : dens [slI, slI]) (h : G15 x = true) : (T15 x).val = some (V15 x) := by
  obtain ⟨a, b⟩ := x
  simp only [G15, decide_eq_true_eq] at h
  simp only [T15, V15, PT.val, sameOk]
  by_cases hl : a.length = b.length
  · rw [show ((a.length : Int) != (b.length : Int)) = false by simp [hl], show (decide (a.length = b.length) && decide (a.length < 9223372036854775808)) = true by simp [hl]; omega]
    cases eqL insT a b <;> rfl
  · rw [show ((a.length : Int) != (b.length : Int)) = true by simp; omega, eqL_ne hl]
    rfl
noncomputable def C2 : Ctx := C1.addPlain 15 (plainT [slI, slI] G15 (.ty .bool) V15)
theorem good2 : Good C2 := good1.fnG (.ty .bool) T15 G15 V15 3 8 (by kernel_rfl) (fun x => by kernel_rfl) G15_ok
abbrev ii : List Ty := [.int .i64, .int .i64]
abbrev iii : List Ty := [.int .i64, .int .i64, .int .i64]
abbrev slO : Sh := .osl 32 insT
def insOf (op rd rn rm ra imm : Int) : insT.den := (op, rd, rn, rm, ra, imm, 0, false, ())
def T16 (x : dens ii) : PT (List insT.den) := .ite (decide (x.1 < 0)) (.leaf []) (.ite (decide (x.1 > 7)) (.leaf []) (.leaf [insOf 3 x.1 0 0 0 (band .i64 x.2 65535), insOf 4 x.1 0 0 0 (band .i64 (ishr .i64 x.2 16) 65535)]))
noncomputable def C3 : Ctx := C2.addPlain 16 (plainT ii (fun _ => true) slO fun x => (T16 x).val)
theorem good3 : Good C3 := good2.fnT slO T16 3 8 (by kernel_rfl) (fun x => by kernel_rfl)
def T17 (x : dens ii) : PT (List insT.den) := .ite (decide (x.1 < 0)) (.leaf []) (.ite (decide (x.1 > 7)) (.leaf []) (.leaf [insOf 3 x.1 0 0 0 (IntKind.i64.wrap ((IntKind.u64.wrap x.2).tmod 65536)), insOf 4 x.1 0 0 0 (IntKind.i64.wrap ((IntKind.u64.wrap ((IntKind.u64.wrap x.2).tdiv 65536)).tmod 65536))]))
noncomputable def C4 : Ctx := C3.addPlain 17 (plainT ii (fun _ => true) slO fun x => (T17 x).val)
theorem good4 : Good C4 := good3.fnT slO T17 3 8 (by kernel_rfl) (fun x => by kernel_rfl)


def T63 (x : dens iii) : PT Bool :=
  (.ite (decide (x.fst ≥ 0))
   (.ite (decide (x.fst ≤ 65535))
    (.ite (x.snd.1 == 0)
     (.ite (decide (x.snd.snd ≥ 0))
      (.leaf (decide (x.snd.snd ≤ 7)))
      (.leaf (false)))
     (.ite (x.snd.1 == 1)
      (.ite (decide (x.snd.snd ≥ 0))
       (.leaf (decide (x.snd.snd ≤ 7)))
       (.leaf (false)))
      (.leaf (false))))
    (.leaf (false)))
   (.leaf (false)))
noncomputable def C5 : Ctx := C4.addPlain 63 (plainT iii (fun _ => true) (.ty .bool) fun x => (T63 x).val)
theorem good5 : Good C5 := good4.fnT (.ty .bool) T63 3 8 (by kernel_rfl) (fun x => by kernel_rfl)
def T64 (x : dens [.int .i64]) : PT Int :=
  (.ite (x == 0)
   (.leaf (537133056))
   (.ite (x == 1)
    (.leaf (537395200))
    (.leaf (0))))
noncomputable def C6 : Ctx := C5.addPlain 64 (plainT [.int .i64] (fun _ => true) (.ty (.int .i64)) fun x => (T64 x).val)
theorem good6 : Good C6 := good5.fnT (.ty (.int .i64)) T64 3 8 (by kernel_rfl) (fun x => by kernel_rfl)
def T65 (x : dens [.int .i64, .int .i64, .int .i64, .int .i64]) : PT (List insT.den) :=
  (.ite (decide (x.snd.fst < 0))
   (.leaf ([]))
   (.ite (decide (x.snd.fst > 65535))
    (.leaf ([]))
    (.ite (decide (x.snd.snd.fst < 0))
     (.leaf ([]))
     (.ite (decide (x.snd.snd.fst > 1))
      (.leaf ([]))
      (.ite (decide (x.snd.snd.snd < 0))
       (.leaf ([]))
       (.ite (decide (x.snd.snd.snd > 7))
        (.leaf ([]))
        (.ite (x.snd.snd.1 == 0)
         (.leaf [insOf 3 7 0 0 0 x.2.1, insOf 4 7 0 0 0 8196, insOf x.1 x.2.2.2 7 0 0 0])
         (.leaf [insOf 3 7 0 0 0 x.2.1, insOf 4 7 0 0 0 8200, insOf x.1 x.2.2.2 7 0 0 0]))))))))
noncomputable def C7 : Ctx := C6.addPlain 65 (plainT [.int .i64, .int .i64, .int .i64, .int .i64] (fun _ => true) slO fun x => (T65 x).val)
theorem good7 : Good C7 := good6.fnT slO T65 3 8 (by kernel_rfl) (fun x => by kernel_rfl)
end Go.Proofs.Ytfdnniopghcngaa
