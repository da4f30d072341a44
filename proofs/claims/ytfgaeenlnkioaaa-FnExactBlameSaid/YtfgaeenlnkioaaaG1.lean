/- Go functions told as plain Lean functions; that the code does what these tell. Printed by a program of the session (evp.py). -/
import Derived.Test.YtfgaeenlnkioaaaEv16
import Derived.Test.YtfgaeenlnkioaaaG0
namespace Go.Proofs.Ytfgaeenlnkioaaa.G
open Go Go.RowKit Go.Proofs Go.Proofs.Ytfgaeenlnkioaaa.Ev
set_option linter.unusedVariables false
set_option maxRecDepth 100000

noncomputable def spec_SameTree.H4 : Hd := ⟨[], [2, 3, 5], [2, 3]⟩
@[reducible] def spec_SameTree.A4 : Type := ((Unit × Unit × Int × Unit) × (Tree × Tree × Unit))
noncomputable def spec_SameTree.Z4 : SC spec_SameTree.A4 := sC spec_SameTree.H4 (eCons 2 (tRef 2 0) (eCons 3 (tRef 3 0) (eCons 5 (tP (aI .i64)) eNil))) (bCons 2 (xVr cTree) (bCons 3 (xVr cTree) bNil))
@[reducible] def spec_SameTree.B4 : Type := ((Bool × Unit) × (Unit)) ⊕ ((Unit) × (Unit))
noncomputable def spec_SameTree.X4 : XC spec_SameTree.B4 := xOr (xRet (sC ⟨[], [4], []⟩ (eCons 4 (tP aB) eNil) bNil)) (xExit 0 (sC ⟨[], [], []⟩ eNil bNil))
noncomputable def spec_SameTree.s4 (k : Nat) (self22 : Tree → Tree → Option Bool) (J : Int → Tree → Tree → Option spec_SameTree.B4) (x5 : Int) (b2 : Tree) (b3 : Tree) : Option spec_SameTree.B4 :=
  if (decide (x5 < (b2.kids.length : Int))) = true then (if 0 ≤ x5 then (if x5 < (b2.kids.length : Int) then (if 0 ≤ x5 then (if x5 < (b3.kids.length : Int) then ((self22  (T1 (rd b2.kids x5)) (T1 (rd b3.kids x5))).bind fun t1 => if (!t1) = true then (some (.inl ((false, ()), (())))) else (J (W (x5 + 1)) (T1 b2) (T1 b3))) else none) else none) else none) else none) else (some (.inr ((()), (()))))
noncomputable def spec_SameTree.l4 (k : Nat) (self22 : Tree → Tree → Option Bool) : Nat → Int → Tree → Tree → Option spec_SameTree.B4
  | 0, _, _, _ => none
  | n + 1, x5, b2, b3 => spec_SameTree.s4 k self22 (spec_SameTree.l4 k self22 n) x5 b2 b3
noncomputable def spec_SameTree.fs (k : Nat) (self22 : Tree → Tree → Option Bool) (a0 : Tree) (a1 : Tree) : Option Bool :=
  if (!(a0.inn == a1.inn)) = true then (some false) else (if (!((a0.p.a == a1.p.a) && ((a0.p.b == a1.p.b) && ((a0.p.c == a1.p.c) && (a0.p.d == a1.p.d))))) = true then (some false) else (if ((a0.kids.length : Int) != (a1.kids.length : Int)) = true then (some false) else ((spec_SameTree.l4 k self22 k 0 (T1 a0) (T1 a1)).bind fun | .inl r2 => (some r2.1.1) | .inr x3 => (some true))))
noncomputable def spec_SameTree.f : Nat → Tree → Tree → Option Bool
  | 0, _, _ => none
  | k + 1, a0, a1 => spec_SameTree.fs k (spec_SameTree.f k) a0 a1
theorem spec_SameTree.fS (k : Nat) (a0 : Tree) (a1 : Tree) : spec_SameTree.f (k + 1) a0 a1 = spec_SameTree.fs k (spec_SameTree.f k) a0 a1 := by first | rfl | rw [spec_SameTree.f]
noncomputable def spec_SameTree.e (k : Nat) : FE := { α := Tree × Tree × Unit, β := Bool, args := (lCons aTree (lCons aTree lNil)), ret := (rOne aB), f := fun p => spec_SameTree.f k p.1 p.2.1 }
noncomputable def spec_SameTree.c (k : Nat) : List (Nat × CE) := [(22, .fn (spec_SameTree.e k))]
noncomputable def spec_SameTree.bd : Code := match Try.f22.body with | some c => c | none => .skip
noncomputable def spec_SameTree.e4 (k : Nat) : LE := { H := spec_SameTree.H4, α := spec_SameTree.A4, β := spec_SameTree.B4, st := spec_SameTree.Z4, xt := spec_SameTree.X4, f := fun p => spec_SameTree.l4 k (spec_SameTree.f k) k p.1.2.2.1 p.2.1 p.2.2.1 }
noncomputable def spec_SameTree.g (k : Nat) : List (Nat × LE) := [(4, spec_SameTree.e4 k)]
theorem spec_SameTree.t4 (k : Nat) (I : S2 → Option spec_SameTree.B4) (x5 : Int) (b2 : Tree) (b3 : Tree) : stepOf (mkCx Try.prog (spec_SameTree.c k) (spec_SameTree.g k) : Cx spec_SameTree.B4) (loopAt spec_SameTree.bd 0) spec_SameTree.H4 spec_SameTree.X4.dec I (spec_SameTree.Z4.enc (((), (), x5, ()), (b2, b3, ()))) = spec_SameTree.s4 k (spec_SameTree.f k) (fun x5 b2 b3 => I (spec_SameTree.Z4.enc (((), (), x5, ()), (b2, b3, ())))) x5 b2 b3 := by kernel_rfl
theorem spec_SameTree.i4 (k : Nat) : ∀ (n : Nat) (x5 : Int) (b2 : Tree) (b3 : Tree), iter (evCode (mkCx Try.prog (spec_SameTree.c k) (spec_SameTree.g k) : Cx spec_SameTree.B4) (loopAt spec_SameTree.bd 0)) spec_SameTree.H4 spec_SameTree.X4.dec n (spec_SameTree.Z4.enc (((), (), x5, ()), (b2, b3, ()))) = spec_SameTree.l4 k (spec_SameTree.f k) n x5 b2 b3
  | 0, _, _, _ => rfl
  | n + 1, x5, b2, b3 => ((iter_step _ _ _ _ n _).trans (spec_SameTree.t4 k _ x5 b2 b3)).trans (congrArg (fun J => spec_SameTree.s4 k (spec_SameTree.f k) J x5 b2 b3) (funext fun x5 => funext fun b2 => funext fun b3 => spec_SameTree.i4 k n x5 b2 b3))
theorem spec_SameTree.to4 (k : Nat) (hC : AllFun Try.prog (spec_SameTree.c k)) : LoopTo Try.prog 46 (spec_SameTree.e4 k) (loopAt spec_SameTree.bd 0) := loop_to mixed hC (by kernel_rfl) (loops_all 0 (by kernel_rfl) fun i hi => absurd hi (Nat.not_lt_zero i)) fun a b h => ⟨k, (spec_SameTree.i4 k k a.1.2.2.1 a.2.1 a.2.2.1).trans h⟩
theorem spec_SameTree.link (k : Nat) (a0 : Tree) (a1 : Tree) : evFun (mkCx Try.prog (spec_SameTree.c k) (spec_SameTree.g k) : Cx Bool) Try.f22 ((spec_SameTree.e (k + 1)).args.enc (a0, a1, ())) (spec_SameTree.e (k + 1)).ret.dec = spec_SameTree.fs k (spec_SameTree.f k) a0 a1 := by kernel_rfl
theorem spec_SameTree.ok1 (k : Nat) (hC : AllFun Try.prog (spec_SameTree.c k)) : Fun Try.prog 22 (spec_SameTree.e (k + 1)).G := fun_ok mixed (body := spec_SameTree.bd) Try.func22 (by kernel_rfl) (by kernel_rfl) (by kernel_rfl) hC (loops_all 1 (by kernel_rfl) fun i hi => by obtain rfl : i = 0 := Nat.lt_one_iff.1 hi; exact ⟨spec_SameTree.e4 k, by kernel_rfl, spec_SameTree.to4 k hC⟩) (spec_SameTree.e (k + 1)) (fun a => Nat.le_of_ble_eq_true (by kernel_rfl)) fun a b h => (spec_SameTree.link k a.1 a.2.1).trans ((spec_SameTree.fS k a.1 a.2.1).symm.trans h)
theorem spec_SameTree.ok : ∀ k, Fun Try.prog 22 (spec_SameTree.e k).G
  | 0 => fun_zero (by kernel_rfl) fun _ => rfl
  | k + 1 => spec_SameTree.ok1 k ⟨spec_SameTree.ok k, trivial⟩

noncomputable def laws_toSolidS.H3 : Hd := ⟨[], [0, 3, 4], []⟩
@[reducible] def laws_toSolidS.A3 : Type := (((List Tree) × Unit × Int × Unit) × ((List Tree) × Unit))
noncomputable def laws_toSolidS.Z3 : SC laws_toSolidS.A3 := sC laws_toSolidS.H3 (eCons 0 (tP (aSl .tree)) (eCons 3 (tOsl 1000003) (eCons 4 (tP (aI .i64)) eNil))) (bCons 1000003 (xRow 27 .tree) bNil)
@[reducible] def laws_toSolidS.B3 : Type := ((Unit × Unit) × ((List Tree) × Unit))
noncomputable def laws_toSolidS.X3 : XC laws_toSolidS.B3 := xExit 0 (sC ⟨[], [3], []⟩ (eCons 3 (tOsl 1000003) eNil) (bCons 1000003 (xRow 27 .tree) bNil))
noncomputable def laws_toSolidS.s3 (k : Nat) (self23 : Tree → Option Tree) (self68 : (List Tree) → Option (List Tree)) (J : (List Tree) → Int → (List Tree) → Option laws_toSolidS.B3) (x0 : List Tree) (x4 : Int) (b1000003 : List Tree) : Option laws_toSolidS.B3 :=
  if (decide (x4 < (x0.length : Int))) = true then (if 0 ≤ x4 then (if x4 < (x0.length : Int) then ((self23  (T1 (rd x0 x4))).bind fun t1 => if 0 ≤ x4 then (if x4 < (b1000003.length : Int) then (if x4.toNat < b1000003.length then (J x0 (W (x4 + 1)) (b1000003.set x4.toNat (T1 t1))) else none) else none) else none) else none) else none) else (some (((), ()), (b1000003, ())))
noncomputable def laws_toSolidS.l3 (k : Nat) (self23 : Tree → Option Tree) (self68 : (List Tree) → Option (List Tree)) : Nat → (List Tree) → Int → (List Tree) → Option laws_toSolidS.B3
  | 0, _, _, _ => none
  | n + 1, x0, x4, b1000003 => laws_toSolidS.s3 k self23 self68 (laws_toSolidS.l3 k self23 self68 n) x0 x4 b1000003
noncomputable def laws_toSolidS.fs (k : Nat) (self23 : Tree → Option Tree) (self68 : (List Tree) → Option (List Tree)) (a0 : List Tree) : Option (List Tree) :=
  if 0 ≤ (a0.length : Int) then (if lt47 ((a0.length : Int)).toNat = true then ((laws_toSolidS.l3 k self23 self68 k a0 0 (List.replicate (a0.length : Int).toNat default : List Tree)).bind fun x2 => some x2.2.1) else none) else none
noncomputable def laws_toSolid.fs (k : Nat) (self23 : Tree → Option Tree) (self68 : (List Tree) → Option (List Tree)) (a0 : Tree) : Option Tree :=
  (laws_toPlane.f k  a0.p).bind fun t1 => (self68  a0.kids).bind fun t2 => some (Tree.mk a0.inn t1 t2)
mutual
noncomputable def laws_toSolidS.f : Nat → (List Tree) → Option (List Tree)
  | 0, _ => none
  | k + 1, a0 => laws_toSolidS.fs k (laws_toSolid.f k) (laws_toSolidS.f k) a0
noncomputable def laws_toSolid.f : Nat → Tree → Option Tree
  | 0, _ => none
  | k + 1, a0 => laws_toSolid.fs k (laws_toSolid.f k) (laws_toSolidS.f k) a0
end
theorem laws_toSolidS.fS (k : Nat) (a0 : List Tree) : laws_toSolidS.f (k + 1) a0 = laws_toSolidS.fs k (laws_toSolid.f k) (laws_toSolidS.f k) a0 := by first | rfl | rw [laws_toSolidS.f]
theorem laws_toSolid.fS (k : Nat) (a0 : Tree) : laws_toSolid.f (k + 1) a0 = laws_toSolid.fs k (laws_toSolid.f k) (laws_toSolidS.f k) a0 := by first | rfl | rw [laws_toSolid.f]
noncomputable def laws_toSolidS.e (k : Nat) : FE := { α := (List Tree) × Unit, β := List Tree, args := (lCons (aSl .tree) lNil), ret := (rOwn 27 .tree), f := fun p => laws_toSolidS.f k p.1 }
noncomputable def laws_toSolid.e (k : Nat) : FE := { α := Tree × Unit, β := Tree, args := (lCons aTree lNil), ret := (rOne aTree), f := fun p => laws_toSolid.f k p.1 }
noncomputable def laws_toSolidS.c (k : Nat) : List (Nat × CE) := [(23, .fn (laws_toSolid.e k))]
noncomputable def laws_toSolidS.bd : Code := match Try.f68.body with | some c => c | none => .skip
noncomputable def laws_toSolidS.e3 (k : Nat) : LE := { H := laws_toSolidS.H3, α := laws_toSolidS.A3, β := laws_toSolidS.B3, st := laws_toSolidS.Z3, xt := laws_toSolidS.X3, f := fun p => laws_toSolidS.l3 k (laws_toSolid.f k) (laws_toSolidS.f k) k p.1.1 p.1.2.2.1 p.2.1 }
noncomputable def laws_toSolidS.g (k : Nat) : List (Nat × LE) := [(3, laws_toSolidS.e3 k)]
theorem laws_toSolidS.t3 (k : Nat) (I : S2 → Option laws_toSolidS.B3) (x0 : List Tree) (x4 : Int) (b1000003 : List Tree) : stepOf (mkCx Try.prog (laws_toSolidS.c k) (laws_toSolidS.g k) : Cx laws_toSolidS.B3) (loopAt laws_toSolidS.bd 0) laws_toSolidS.H3 laws_toSolidS.X3.dec I (laws_toSolidS.Z3.enc ((x0, (), x4, ()), (b1000003, ()))) = laws_toSolidS.s3 k (laws_toSolid.f k) (laws_toSolidS.f k) (fun x0 x4 b1000003 => I (laws_toSolidS.Z3.enc ((x0, (), x4, ()), (b1000003, ())))) x0 x4 b1000003 := by kernel_rfl
theorem laws_toSolidS.i3 (k : Nat) : ∀ (n : Nat) (x0 : List Tree) (x4 : Int) (b1000003 : List Tree), iter (evCode (mkCx Try.prog (laws_toSolidS.c k) (laws_toSolidS.g k) : Cx laws_toSolidS.B3) (loopAt laws_toSolidS.bd 0)) laws_toSolidS.H3 laws_toSolidS.X3.dec n (laws_toSolidS.Z3.enc ((x0, (), x4, ()), (b1000003, ()))) = laws_toSolidS.l3 k (laws_toSolid.f k) (laws_toSolidS.f k) n x0 x4 b1000003
  | 0, _, _, _ => rfl
  | n + 1, x0, x4, b1000003 => ((iter_step _ _ _ _ n _).trans (laws_toSolidS.t3 k _ x0 x4 b1000003)).trans (congrArg (fun J => laws_toSolidS.s3 k (laws_toSolid.f k) (laws_toSolidS.f k) J x0 x4 b1000003) (funext fun x0 => funext fun x4 => funext fun b1000003 => laws_toSolidS.i3 k n x0 x4 b1000003))
theorem laws_toSolidS.to3 (k : Nat) (hC : AllFun Try.prog (laws_toSolidS.c k)) : LoopTo Try.prog 23 (laws_toSolidS.e3 k) (loopAt laws_toSolidS.bd 0) := loop_to mixed hC (by kernel_rfl) (loops_all 0 (by kernel_rfl) fun i hi => absurd hi (Nat.not_lt_zero i)) fun a b h => ⟨k, (laws_toSolidS.i3 k k a.1.1 a.1.2.2.1 a.2.1).trans h⟩
theorem laws_toSolidS.link (k : Nat) (a0 : List Tree) : evFun (mkCx Try.prog (laws_toSolidS.c k) (laws_toSolidS.g k) : Cx (List Tree)) Try.f68 ((laws_toSolidS.e (k + 1)).args.enc (a0, ())) (laws_toSolidS.e (k + 1)).ret.dec = laws_toSolidS.fs k (laws_toSolid.f k) (laws_toSolidS.f k) a0 := by kernel_rfl
theorem laws_toSolidS.ok1 (k : Nat) (hC : AllFun Try.prog (laws_toSolidS.c k)) : Fun Try.prog 68 (laws_toSolidS.e (k + 1)).G := fun_ok mixed (body := laws_toSolidS.bd) Try.func68 (by kernel_rfl) (by kernel_rfl) (by kernel_rfl) hC (loops_all 1 (by kernel_rfl) fun i hi => by obtain rfl : i = 0 := Nat.lt_one_iff.1 hi; exact ⟨laws_toSolidS.e3 k, by kernel_rfl, laws_toSolidS.to3 k hC⟩) (laws_toSolidS.e (k + 1)) (fun a => Nat.le_of_ble_eq_true (by kernel_rfl)) fun a b h => (laws_toSolidS.link k a.1).trans ((laws_toSolidS.fS k a.1).symm.trans h)
noncomputable def laws_toSolid.c (k : Nat) : List (Nat × CE) := [(16, .fn (laws_toPlane.e k)), (68, .fn (laws_toSolidS.e k))]
noncomputable def laws_toSolid.bd : Code := match Try.f23.body with | some c => c | none => .skip
noncomputable def laws_toSolid.g (k : Nat) : List (Nat × LE) := []
theorem laws_toSolid.link (k : Nat) (a0 : Tree) : evFun (mkCx Try.prog (laws_toSolid.c k) (laws_toSolid.g k) : Cx Tree) Try.f23 ((laws_toSolid.e (k + 1)).args.enc (a0, ())) (laws_toSolid.e (k + 1)).ret.dec = laws_toSolid.fs k (laws_toSolid.f k) (laws_toSolidS.f k) a0 := by kernel_rfl
theorem laws_toSolid.ok1 (k : Nat) (hC : AllFun Try.prog (laws_toSolid.c k)) : Fun Try.prog 23 (laws_toSolid.e (k + 1)).G := fun_ok mixed (body := laws_toSolid.bd) Try.func23 (by kernel_rfl) (by kernel_rfl) (by kernel_rfl) hC (loops_all 0 (by kernel_rfl) fun i hi => absurd hi (Nat.not_lt_zero i)) (laws_toSolid.e (k + 1)) (fun a => Nat.le_of_ble_eq_true (by kernel_rfl)) fun a b h => (laws_toSolid.link k a.1).trans ((laws_toSolid.fS k a.1).symm.trans h)
theorem laws_toSolidS.okk : ∀ k, Fun Try.prog 68 (laws_toSolidS.e k).G ∧ Fun Try.prog 23 (laws_toSolid.e k).G
  | 0 => ⟨fun_zero (by kernel_rfl) fun _ => rfl, fun_zero (by kernel_rfl) fun _ => rfl⟩
  | k + 1 => have h := laws_toSolidS.okk k; ⟨laws_toSolidS.ok1 k ⟨h.2, trivial⟩, laws_toSolid.ok1 k ⟨laws_toPlane.ok k, h.1, trivial⟩⟩
theorem laws_toSolidS.ok (k : Nat) : Fun Try.prog 68 (laws_toSolidS.e k).G := (laws_toSolidS.okk k).1
theorem laws_toSolid.ok (k : Nat) : Fun Try.prog 23 (laws_toSolid.e k).G := (laws_toSolidS.okk k).2

noncomputable def slices_EqualFunc.H4 : Hd := ⟨[], [1, 2, 15, 16, 17], []⟩
@[reducible] def slices_EqualFunc.A4 : Type := (((List Tree) × Unit × (List Tree) × Int × Int × Unit) × (Unit))
noncomputable def slices_EqualFunc.Z4 : SC slices_EqualFunc.A4 := sC slices_EqualFunc.H4 (eCons 1 (tP (aSl .tree)) (eCons 2 (tP (aFn 24)) (eCons 15 (tP (aSl .tree)) (eCons 16 (tP (aI .i64)) (eCons 17 (tP (aI .i64)) eNil))))) bNil
@[reducible] def slices_EqualFunc.B4 : Type := ((Bool × Unit) × (Unit)) ⊕ ((Unit) × (Unit))
noncomputable def slices_EqualFunc.X4 : XC slices_EqualFunc.B4 := xOr (xRet (sC ⟨[], [6], []⟩ (eCons 6 (tP aB) eNil) bNil)) (xExit 0 (sC ⟨[], [], []⟩ eNil bNil))
noncomputable def slices_EqualFunc.s4 (k : Nat) (self24 : Tree → Tree → Option Bool) (self69 : (List Tree) → (List Tree) → Unit → Option Bool) (J : (List Tree) → Unit → (List Tree) → Int → Int → Option slices_EqualFunc.B4) (x1 : List Tree) (x2 : Unit) (x15 : List Tree) (x16 : Int) (x17 : Int) : Option slices_EqualFunc.B4 :=
  if (decide (x17 < x16)) = true then (if 0 ≤ x17 then (if x17 < (x15.length : Int) then (if 0 ≤ x17 then (if x17 < (x1.length : Int) then ((self24  (T1 (rd x15 x17)) (T1 (rd x1 x17))).bind fun t1 => if (!t1) = true then (some (.inl ((false, ()), (())))) else (J x1 () x15 x16 (W (x17 + 1)))) else none) else none) else none) else none) else (some (.inr ((()), (()))))
noncomputable def slices_EqualFunc.l4 (k : Nat) (self24 : Tree → Tree → Option Bool) (self69 : (List Tree) → (List Tree) → Unit → Option Bool) : Nat → (List Tree) → Unit → (List Tree) → Int → Int → Option slices_EqualFunc.B4
  | 0, _, _, _, _, _ => none
  | n + 1, x1, x2, x15, x16, x17 => slices_EqualFunc.s4 k self24 self69 (slices_EqualFunc.l4 k self24 self69 n) x1 x2 x15 x16 x17
noncomputable def slices_EqualFunc.fs (k : Nat) (self24 : Tree → Tree → Option Bool) (self69 : (List Tree) → (List Tree) → Unit → Option Bool) (a0 : List Tree) (a1 : List Tree) (a2 : Unit) : Option Bool :=
  if ((a0.length : Int) != (a1.length : Int)) = true then (some false) else ((slices_EqualFunc.l4 k self24 self69 k a1 () a0 (a0.length : Int) 0).bind fun | .inl r2 => (some r2.1.1) | .inr x3 => (some true))
noncomputable def impl_SameTree.fs (k : Nat) (self24 : Tree → Tree → Option Bool) (self69 : (List Tree) → (List Tree) → Unit → Option Bool) (a0 : Tree) (a1 : Tree) : Option Bool :=
  if (a0.inn == a1.inn) = true then (if ((a0.p.a == a1.p.a) && ((a0.p.b == a1.p.b) && ((a0.p.c == a1.p.c) && (a0.p.d == a1.p.d)))) = true then ((self69  a0.kids a1.kids ()).bind fun t1 => some t1) else (some false)) else (some false)
mutual
noncomputable def slices_EqualFunc.f : Nat → (List Tree) → (List Tree) → Unit → Option Bool
  | 0, _, _, _ => none
  | k + 1, a0, a1, a2 => slices_EqualFunc.fs k (impl_SameTree.f k) (slices_EqualFunc.f k) a0 a1 a2
noncomputable def impl_SameTree.f : Nat → Tree → Tree → Option Bool
  | 0, _, _ => none
  | k + 1, a0, a1 => impl_SameTree.fs k (impl_SameTree.f k) (slices_EqualFunc.f k) a0 a1
end
theorem slices_EqualFunc.fS (k : Nat) (a0 : List Tree) (a1 : List Tree) (a2 : Unit) : slices_EqualFunc.f (k + 1) a0 a1 a2 = slices_EqualFunc.fs k (impl_SameTree.f k) (slices_EqualFunc.f k) a0 a1 a2 := by first | rfl | rw [slices_EqualFunc.f]
theorem impl_SameTree.fS (k : Nat) (a0 : Tree) (a1 : Tree) : impl_SameTree.f (k + 1) a0 a1 = impl_SameTree.fs k (impl_SameTree.f k) (slices_EqualFunc.f k) a0 a1 := by first | rfl | rw [impl_SameTree.f]
noncomputable def slices_EqualFunc.e (k : Nat) : FE := { α := (List Tree) × (List Tree) × Unit × Unit, β := Bool, args := (lCons (aSl .tree) (lCons (aSl .tree) (lCons (aFn 24) lNil))), ret := (rOne aB), f := fun p => slices_EqualFunc.f k p.1 p.2.1 p.2.2.1 }
noncomputable def impl_SameTree.e (k : Nat) : FE := { α := Tree × Tree × Unit, β := Bool, args := (lCons aTree (lCons aTree lNil)), ret := (rOne aB), f := fun p => impl_SameTree.f k p.1 p.2.1 }
noncomputable def slices_EqualFunc.c (k : Nat) : List (Nat × CE) := [(24, .fn (impl_SameTree.e k))]
noncomputable def slices_EqualFunc.bd : Code := match Try.f69.body with | some c => c | none => .skip
noncomputable def slices_EqualFunc.e4 (k : Nat) : LE := { H := slices_EqualFunc.H4, α := slices_EqualFunc.A4, β := slices_EqualFunc.B4, st := slices_EqualFunc.Z4, xt := slices_EqualFunc.X4, f := fun p => slices_EqualFunc.l4 k (impl_SameTree.f k) (slices_EqualFunc.f k) k p.1.1 p.1.2.1 p.1.2.2.1 p.1.2.2.2.1 p.1.2.2.2.2.1 }
noncomputable def slices_EqualFunc.g (k : Nat) : List (Nat × LE) := [(4, slices_EqualFunc.e4 k)]
theorem slices_EqualFunc.t4 (k : Nat) (I : S2 → Option slices_EqualFunc.B4) (x1 : List Tree) (x2 : Unit) (x15 : List Tree) (x16 : Int) (x17 : Int) : stepOf (mkCx Try.prog (slices_EqualFunc.c k) (slices_EqualFunc.g k) : Cx slices_EqualFunc.B4) (loopAt slices_EqualFunc.bd 0) slices_EqualFunc.H4 slices_EqualFunc.X4.dec I (slices_EqualFunc.Z4.enc ((x1, x2, x15, x16, x17, ()), (()))) = slices_EqualFunc.s4 k (impl_SameTree.f k) (slices_EqualFunc.f k) (fun x1 x2 x15 x16 x17 => I (slices_EqualFunc.Z4.enc ((x1, x2, x15, x16, x17, ()), (())))) x1 x2 x15 x16 x17 := by kernel_rfl
theorem slices_EqualFunc.i4 (k : Nat) : ∀ (n : Nat) (x1 : List Tree) (x2 : Unit) (x15 : List Tree) (x16 : Int) (x17 : Int), iter (evCode (mkCx Try.prog (slices_EqualFunc.c k) (slices_EqualFunc.g k) : Cx slices_EqualFunc.B4) (loopAt slices_EqualFunc.bd 0)) slices_EqualFunc.H4 slices_EqualFunc.X4.dec n (slices_EqualFunc.Z4.enc ((x1, x2, x15, x16, x17, ()), (()))) = slices_EqualFunc.l4 k (impl_SameTree.f k) (slices_EqualFunc.f k) n x1 x2 x15 x16 x17
  | 0, _, _, _, _, _ => rfl
  | n + 1, x1, x2, x15, x16, x17 => ((iter_step _ _ _ _ n _).trans (slices_EqualFunc.t4 k _ x1 x2 x15 x16 x17)).trans (congrArg (fun J => slices_EqualFunc.s4 k (impl_SameTree.f k) (slices_EqualFunc.f k) J x1 x2 x15 x16 x17) (funext fun x1 => funext fun x2 => funext fun x15 => funext fun x16 => funext fun x17 => slices_EqualFunc.i4 k n x1 x2 x15 x16 x17))
theorem slices_EqualFunc.to4 (k : Nat) (hC : AllFun Try.prog (slices_EqualFunc.c k)) : LoopTo Try.prog 32 (slices_EqualFunc.e4 k) (loopAt slices_EqualFunc.bd 0) := loop_to mixed hC (by kernel_rfl) (loops_all 0 (by kernel_rfl) fun i hi => absurd hi (Nat.not_lt_zero i)) fun a b h => ⟨k, (slices_EqualFunc.i4 k k a.1.1 a.1.2.1 a.1.2.2.1 a.1.2.2.2.1 a.1.2.2.2.2.1).trans h⟩
theorem slices_EqualFunc.link (k : Nat) (a0 : List Tree) (a1 : List Tree) (a2 : Unit) : evFun (mkCx Try.prog (slices_EqualFunc.c k) (slices_EqualFunc.g k) : Cx Bool) Try.f69 ((slices_EqualFunc.e (k + 1)).args.enc (a0, a1, a2, ())) (slices_EqualFunc.e (k + 1)).ret.dec = slices_EqualFunc.fs k (impl_SameTree.f k) (slices_EqualFunc.f k) a0 a1 a2 := by kernel_rfl
theorem slices_EqualFunc.ok1 (k : Nat) (hC : AllFun Try.prog (slices_EqualFunc.c k)) : Fun Try.prog 69 (slices_EqualFunc.e (k + 1)).G := fun_ok mixed (body := slices_EqualFunc.bd) Try.func69 (by kernel_rfl) (by kernel_rfl) (by kernel_rfl) hC (loops_all 1 (by kernel_rfl) fun i hi => by obtain rfl : i = 0 := Nat.lt_one_iff.1 hi; exact ⟨slices_EqualFunc.e4 k, by kernel_rfl, slices_EqualFunc.to4 k hC⟩) (slices_EqualFunc.e (k + 1)) (fun a => Nat.le_of_ble_eq_true (by kernel_rfl)) fun a b h => (slices_EqualFunc.link k a.1 a.2.1 a.2.2.1).trans ((slices_EqualFunc.fS k a.1 a.2.1 a.2.2.1).symm.trans h)
noncomputable def impl_SameTree.c (k : Nat) : List (Nat × CE) := [(69, .fn (slices_EqualFunc.e k))]
noncomputable def impl_SameTree.bd : Code := match Try.f24.body with | some c => c | none => .skip
noncomputable def impl_SameTree.g (k : Nat) : List (Nat × LE) := []
theorem impl_SameTree.link (k : Nat) (a0 : Tree) (a1 : Tree) : evFun (mkCx Try.prog (impl_SameTree.c k) (impl_SameTree.g k) : Cx Bool) Try.f24 ((impl_SameTree.e (k + 1)).args.enc (a0, a1, ())) (impl_SameTree.e (k + 1)).ret.dec = impl_SameTree.fs k (impl_SameTree.f k) (slices_EqualFunc.f k) a0 a1 := by kernel_rfl
theorem impl_SameTree.ok1 (k : Nat) (hC : AllFun Try.prog (impl_SameTree.c k)) : Fun Try.prog 24 (impl_SameTree.e (k + 1)).G := fun_ok mixed (body := impl_SameTree.bd) Try.func24 (by kernel_rfl) (by kernel_rfl) (by kernel_rfl) hC (loops_all 0 (by kernel_rfl) fun i hi => absurd hi (Nat.not_lt_zero i)) (impl_SameTree.e (k + 1)) (fun a => Nat.le_of_ble_eq_true (by kernel_rfl)) fun a b h => (impl_SameTree.link k a.1 a.2.1).trans ((impl_SameTree.fS k a.1 a.2.1).symm.trans h)
theorem slices_EqualFunc.okk : ∀ k, Fun Try.prog 69 (slices_EqualFunc.e k).G ∧ Fun Try.prog 24 (impl_SameTree.e k).G
  | 0 => ⟨fun_zero (by kernel_rfl) fun _ => rfl, fun_zero (by kernel_rfl) fun _ => rfl⟩
  | k + 1 => have h := slices_EqualFunc.okk k; ⟨slices_EqualFunc.ok1 k ⟨h.2, trivial⟩, impl_SameTree.ok1 k ⟨h.1, trivial⟩⟩
theorem slices_EqualFunc.ok (k : Nat) : Fun Try.prog 69 (slices_EqualFunc.e k).G := (slices_EqualFunc.okk k).1
theorem impl_SameTree.ok (k : Nat) : Fun Try.prog 24 (impl_SameTree.e k).G := (slices_EqualFunc.okk k).2

noncomputable def laws_FnExactSameTree.f (k : Nat) (a0 : Tree) (a1 : Tree) : Option Bool :=
  (laws_szSolid.f k  (T1 a0) 1048576).bind fun t1 => if (decide (t1 < 0)) = true then (some true) else ((laws_szSolid.f k  (T1 a1) t1).bind fun t2 => if (decide (t2 < 0)) = true then (some true) else ((laws_toSolid.f k  (T1 a0)).bind fun t3 => (laws_toSolid.f k  (T1 a1)).bind fun t4 => (spec_SameTree.f k  (T1 t3) (T1 t4)).bind fun t5 => (laws_toSolid.f k  (T1 a0)).bind fun t6 => (laws_toSolid.f k  (T1 a1)).bind fun t7 => (impl_SameTree.f k  (T1 t6) (T1 t7)).bind fun t8 => if (!(t8 == t5)) = true then (some false) else ((laws_toSolid.f k  (T1 a0)).bind fun t9 => (laws_eqSolid.f k  (T1 t6) (T1 t9)).bind fun t10 => if (!t10) = true then (some false) else ((laws_toSolid.f k  (T1 a1)).bind fun t11 => (laws_eqSolid.f k  (T1 t7) (T1 t11)).bind fun t12 => if (!t12) = true then (some false) else (some true)))))
noncomputable def laws_FnExactSameTree.e (k : Nat) : FE := { α := Tree × Tree × Unit, β := Bool, args := (lCons aTree (lCons aTree lNil)), ret := (rOne aB), f := fun p => laws_FnExactSameTree.f k p.1 p.2.1 }
noncomputable def laws_FnExactSameTree.c (k : Nat) : List (Nat × CE) := [(21, .fn (laws_szSolid.e k)), (23, .fn (laws_toSolid.e k)), (22, .fn (spec_SameTree.e k)), (24, .fn (impl_SameTree.e k)), (18, .fn (laws_eqSolid.e k))]
noncomputable def laws_FnExactSameTree.bd : Code := match Try.f4.body with | some c => c | none => .skip
noncomputable def laws_FnExactSameTree.g (k : Nat) : List (Nat × LE) := []
theorem laws_FnExactSameTree.link (k : Nat) (a0 : Tree) (a1 : Tree) : evFun (mkCx Try.prog (laws_FnExactSameTree.c k) (laws_FnExactSameTree.g k) : Cx Bool) Try.f4 ((laws_FnExactSameTree.e k).args.enc (a0, a1, ())) (laws_FnExactSameTree.e k).ret.dec = laws_FnExactSameTree.f k a0 a1 := by kernel_rfl
theorem laws_FnExactSameTree.ok1 (k : Nat) (hC : AllFun Try.prog (laws_FnExactSameTree.c k)) : Fun Try.prog 4 (laws_FnExactSameTree.e k).G := fun_ok mixed (body := laws_FnExactSameTree.bd) Try.func4 (by kernel_rfl) (by kernel_rfl) (by kernel_rfl) hC (loops_all 0 (by kernel_rfl) fun i hi => absurd hi (Nat.not_lt_zero i)) (laws_FnExactSameTree.e k) (fun a => Nat.le_of_ble_eq_true (by kernel_rfl)) fun a b h => (laws_FnExactSameTree.link k a.1 a.2.1).trans h
theorem laws_FnExactSameTree.ok (k : Nat) : Fun Try.prog 4 (laws_FnExactSameTree.e k).G := laws_FnExactSameTree.ok1 k ⟨laws_szSolid.ok k, laws_toSolid.ok k, spec_SameTree.ok k, impl_SameTree.ok k, laws_eqSolid.ok k, trivial⟩

noncomputable def spec_l8Leaf.f (k : Nat) (a0 : Tree) : Option Bool :=
  some ((a0.kids.length : Int) == 0)
noncomputable def spec_l8Leaf.e (k : Nat) : FE := { α := Tree × Unit, β := Bool, args := (lCons aTree lNil), ret := (rOne aB), f := fun p => spec_l8Leaf.f k p.1 }
noncomputable def spec_l8Leaf.c (k : Nat) : List (Nat × CE) := []
noncomputable def spec_l8Leaf.bd : Code := match Try.f103.body with | some c => c | none => .skip
noncomputable def spec_l8Leaf.g (k : Nat) : List (Nat × LE) := []
theorem spec_l8Leaf.link (k : Nat) (a0 : Tree) : evFun (mkCx Try.prog (spec_l8Leaf.c k) (spec_l8Leaf.g k) : Cx Bool) Try.f103 ((spec_l8Leaf.e k).args.enc (a0, ())) (spec_l8Leaf.e k).ret.dec = spec_l8Leaf.f k a0 := by kernel_rfl
theorem spec_l8Leaf.ok1 (k : Nat) (hC : AllFun Try.prog (spec_l8Leaf.c k)) : Fun Try.prog 103 (spec_l8Leaf.e k).G := fun_ok mixed (body := spec_l8Leaf.bd) Try.func103 (by kernel_rfl) (by kernel_rfl) (by kernel_rfl) hC (loops_all 0 (by kernel_rfl) fun i hi => absurd hi (Nat.not_lt_zero i)) (spec_l8Leaf.e k) (fun a => Nat.le_of_ble_eq_true (by kernel_rfl)) fun a b h => (spec_l8Leaf.link k a.1).trans h
theorem spec_l8Leaf.ok (k : Nat) : Fun Try.prog 103 (spec_l8Leaf.e k).G := spec_l8Leaf.ok1 k trivial

noncomputable def spec_l8Count.H5 : Hd := ⟨[], [1, 2, 5, 6], [2]⟩
@[reducible] def spec_l8Count.A5 : Type := ((Int × Unit × Int × Int × Unit) × (Tree × Unit))
noncomputable def spec_l8Count.Z5 : SC spec_l8Count.A5 := sC spec_l8Count.H5 (eCons 1 (tP (aI .i64)) (eCons 2 (tRef 2 0) (eCons 5 (tP (aI .i64)) (eCons 6 (tP (aI .i64)) eNil)))) (bCons 2 (xVr cTree) bNil)
@[reducible] def spec_l8Count.B5 : Type := ((Int × Unit) × (Unit))
noncomputable def spec_l8Count.X5 : XC spec_l8Count.B5 := xExit 0 (sC ⟨[], [5], []⟩ (eCons 5 (tP (aI .i64)) eNil) bNil)
noncomputable def spec_l8Count.s5 (k : Nat) (self70 : Tree → Int → Option Int) (J : Int → Int → Int → Tree → Option spec_l8Count.B5) (x1 : Int) (x5 : Int) (x6 : Int) (b2 : Tree) : Option spec_l8Count.B5 :=
  if (decide (x6 < (b2.kids.length : Int))) = true then (if 0 ≤ x6 then (if x6 < (b2.kids.length : Int) then ((self70  (T1 (rd b2.kids x6)) (W (x1 - x5))).bind fun t2 => J x1 (W (x5 + t2)) (W (x6 + 1)) (T1 b2)) else none) else none) else (some ((x5, ()), (())))
noncomputable def spec_l8Count.l5 (k : Nat) (self70 : Tree → Int → Option Int) : Nat → Int → Int → Int → Tree → Option spec_l8Count.B5
  | 0, _, _, _, _ => none
  | n + 1, x1, x5, x6, b2 => spec_l8Count.s5 k self70 (spec_l8Count.l5 k self70 n) x1 x5 x6 b2
noncomputable def spec_l8Count.fs (k : Nat) (self70 : Tree → Int → Option Int) (a0 : Tree) (a1 : Int) : Option Int :=
  (spec_l8Leaf.f k  (T1 a0)).bind fun t1 => if t1 = true then (some 0) else (if (decide (a1 ≤ 0)) = true then (some 0) else ((spec_l8Count.l5 k self70 k a1 1 0 (T1 a0)).bind fun x3 => some x3.1.1))
noncomputable def spec_l8Count.f : Nat → Tree → Int → Option Int
  | 0, _, _ => none
  | k + 1, a0, a1 => spec_l8Count.fs k (spec_l8Count.f k) a0 a1
theorem spec_l8Count.fS (k : Nat) (a0 : Tree) (a1 : Int) : spec_l8Count.f (k + 1) a0 a1 = spec_l8Count.fs k (spec_l8Count.f k) a0 a1 := by first | rfl | rw [spec_l8Count.f]
noncomputable def spec_l8Count.e (k : Nat) : FE := { α := Tree × Int × Unit, β := Int, args := (lCons aTree (lCons (aI .i64) lNil)), ret := (rOne (aI .i64)), f := fun p => spec_l8Count.f k p.1 p.2.1 }
noncomputable def spec_l8Count.c (k : Nat) : List (Nat × CE) := [(103, .fn (spec_l8Leaf.e k)), (70, .fn (spec_l8Count.e k))]
noncomputable def spec_l8Count.bd : Code := match Try.f70.body with | some c => c | none => .skip
noncomputable def spec_l8Count.e5 (k : Nat) : LE := { H := spec_l8Count.H5, α := spec_l8Count.A5, β := spec_l8Count.B5, st := spec_l8Count.Z5, xt := spec_l8Count.X5, f := fun p => spec_l8Count.l5 k (spec_l8Count.f k) k p.1.1 p.1.2.2.1 p.1.2.2.2.1 p.2.1 }
noncomputable def spec_l8Count.g (k : Nat) : List (Nat × LE) := [(5, spec_l8Count.e5 k)]
theorem spec_l8Count.t5 (k : Nat) (I : S2 → Option spec_l8Count.B5) (x1 : Int) (x5 : Int) (x6 : Int) (b2 : Tree) : stepOf (mkCx Try.prog (spec_l8Count.c k) (spec_l8Count.g k) : Cx spec_l8Count.B5) (loopAt spec_l8Count.bd 0) spec_l8Count.H5 spec_l8Count.X5.dec I (spec_l8Count.Z5.enc ((x1, (), x5, x6, ()), (b2, ()))) = spec_l8Count.s5 k (spec_l8Count.f k) (fun x1 x5 x6 b2 => I (spec_l8Count.Z5.enc ((x1, (), x5, x6, ()), (b2, ())))) x1 x5 x6 b2 := by kernel_rfl
theorem spec_l8Count.i5 (k : Nat) : ∀ (n : Nat) (x1 : Int) (x5 : Int) (x6 : Int) (b2 : Tree), iter (evCode (mkCx Try.prog (spec_l8Count.c k) (spec_l8Count.g k) : Cx spec_l8Count.B5) (loopAt spec_l8Count.bd 0)) spec_l8Count.H5 spec_l8Count.X5.dec n (spec_l8Count.Z5.enc ((x1, (), x5, x6, ()), (b2, ()))) = spec_l8Count.l5 k (spec_l8Count.f k) n x1 x5 x6 b2
  | 0, _, _, _, _ => rfl
  | n + 1, x1, x5, x6, b2 => ((iter_step _ _ _ _ n _).trans (spec_l8Count.t5 k _ x1 x5 x6 b2)).trans (congrArg (fun J => spec_l8Count.s5 k (spec_l8Count.f k) J x1 x5 x6 b2) (funext fun x1 => funext fun x5 => funext fun x6 => funext fun b2 => spec_l8Count.i5 k n x1 x5 x6 b2))
theorem spec_l8Count.to5 (k : Nat) (hC : AllFun Try.prog (spec_l8Count.c k)) : LoopTo Try.prog 32 (spec_l8Count.e5 k) (loopAt spec_l8Count.bd 0) := loop_to mixed hC (by kernel_rfl) (loops_all 0 (by kernel_rfl) fun i hi => absurd hi (Nat.not_lt_zero i)) fun a b h => ⟨k, (spec_l8Count.i5 k k a.1.1 a.1.2.2.1 a.1.2.2.2.1 a.2.1).trans h⟩
theorem spec_l8Count.link (k : Nat) (a0 : Tree) (a1 : Int) : evFun (mkCx Try.prog (spec_l8Count.c k) (spec_l8Count.g k) : Cx Int) Try.f70 ((spec_l8Count.e (k + 1)).args.enc (a0, a1, ())) (spec_l8Count.e (k + 1)).ret.dec = spec_l8Count.fs k (spec_l8Count.f k) a0 a1 := by kernel_rfl
theorem spec_l8Count.ok1 (k : Nat) (hC : AllFun Try.prog (spec_l8Count.c k)) : Fun Try.prog 70 (spec_l8Count.e (k + 1)).G := fun_ok mixed (body := spec_l8Count.bd) Try.func70 (by kernel_rfl) (by kernel_rfl) (by kernel_rfl) hC (loops_all 1 (by kernel_rfl) fun i hi => by obtain rfl : i = 0 := Nat.lt_one_iff.1 hi; exact ⟨spec_l8Count.e5 k, by kernel_rfl, spec_l8Count.to5 k hC⟩) (spec_l8Count.e (k + 1)) (fun a => Nat.le_of_ble_eq_true (by kernel_rfl)) fun a b h => (spec_l8Count.link k a.1 a.2.1).trans ((spec_l8Count.fS k a.1 a.2.1).symm.trans h)
theorem spec_l8Count.ok : ∀ k, Fun Try.prog 70 (spec_l8Count.e k).G
  | 0 => fun_zero (by kernel_rfl) fun _ => rfl
  | k + 1 => spec_l8Count.ok1 k ⟨spec_l8Leaf.ok k, spec_l8Count.ok k, trivial⟩

noncomputable def spec_l8Path.f (k : Nat) (a0 : List S4) (a1 : S4) : Option (List S4) :=
  if lt47 (([] : List S4).length + a0.length) = true then (if lt47 ((([] : List S4) ++ a0).length + ([a1] : List S4).length) = true then (some ((([] : List S4) ++ a0) ++ ([a1] : List S4))) else none) else none
noncomputable def spec_l8Path.e (k : Nat) : FE := { α := (List S4) × S4 × Unit, β := List S4, args := (lCons (aSl .s4) (lCons aS4 lNil)), ret := (rOwn 24 .s4), f := fun p => spec_l8Path.f k p.1 p.2.1 }
noncomputable def spec_l8Path.c (k : Nat) : List (Nat × CE) := []
noncomputable def spec_l8Path.bd : Code := match Try.f94.body with | some c => c | none => .skip
noncomputable def spec_l8Path.g (k : Nat) : List (Nat × LE) := []
theorem spec_l8Path.link (k : Nat) (a0 : List S4) (a1 : S4) : evFun (mkCx Try.prog (spec_l8Path.c k) (spec_l8Path.g k) : Cx (List S4)) Try.f94 ((spec_l8Path.e k).args.enc (a0, a1, ())) (spec_l8Path.e k).ret.dec = spec_l8Path.f k a0 a1 := by kernel_rfl
theorem spec_l8Path.ok1 (k : Nat) (hC : AllFun Try.prog (spec_l8Path.c k)) : Fun Try.prog 94 (spec_l8Path.e k).G := fun_ok mixed (body := spec_l8Path.bd) Try.func94 (by kernel_rfl) (by kernel_rfl) (by kernel_rfl) hC (loops_all 0 (by kernel_rfl) fun i hi => absurd hi (Nat.not_lt_zero i)) (spec_l8Path.e k) (fun a => Nat.le_of_ble_eq_true (by kernel_rfl)) fun a b h => (spec_l8Path.link k a.1 a.2.1).trans h
theorem spec_l8Path.ok (k : Nat) : Fun Try.prog 94 (spec_l8Path.e k).G := spec_l8Path.ok1 k trivial

noncomputable def spec_l3Sign.f (k : Nat) (a0 : Int) : Option Int :=
  if (decide (a0 > 0)) = true then (some 1) else (if (decide (a0 < 0)) = true then (some (-1)) else (some 0))
noncomputable def spec_l3Sign.e (k : Nat) : FE := { α := Int × Unit, β := Int, args := (lCons (aI .i64) lNil), ret := (rOne (aI .i64)), f := fun p => spec_l3Sign.f k p.1 }
noncomputable def spec_l3Sign.c (k : Nat) : List (Nat × CE) := []
noncomputable def spec_l3Sign.bd : Code := match Try.f130.body with | some c => c | none => .skip
noncomputable def spec_l3Sign.g (k : Nat) : List (Nat × LE) := []
theorem spec_l3Sign.link (k : Nat) (a0 : Int) : evFun (mkCx Try.prog (spec_l3Sign.c k) (spec_l3Sign.g k) : Cx Int) Try.f130 ((spec_l3Sign.e k).args.enc (a0, ())) (spec_l3Sign.e k).ret.dec = spec_l3Sign.f k a0 := by kernel_rfl
theorem spec_l3Sign.ok1 (k : Nat) (hC : AllFun Try.prog (spec_l3Sign.c k)) : Fun Try.prog 130 (spec_l3Sign.e k).G := fun_ok mixed (body := spec_l3Sign.bd) Try.func130 (by kernel_rfl) (by kernel_rfl) (by kernel_rfl) hC (loops_all 0 (by kernel_rfl) fun i hi => absurd hi (Nat.not_lt_zero i)) (spec_l3Sign.e k) (fun a => Nat.le_of_ble_eq_true (by kernel_rfl)) fun a b h => (spec_l3Sign.link k a.1).trans h
theorem spec_l3Sign.ok (k : Nat) : Fun Try.prog 130 (spec_l3Sign.e k).G := spec_l3Sign.ok1 k trivial

noncomputable def spec_l4Cross.f (k : Nat) (a0 : S4) (a1 : S4) : Option S3 :=
  some (⟨(W ((W (a0.b * a1.c)) - (W (a0.c * a1.b)))), (W ((W (a0.c * a1.a)) - (W (a0.a * a1.c)))), (W ((W (a0.a * a1.b)) - (W (a0.b * a1.a))))⟩ : S3)
noncomputable def spec_l4Cross.e (k : Nat) : FE := { α := S4 × S4 × Unit, β := S3, args := (lCons aS4 (lCons aS4 lNil)), ret := (rOne aS3), f := fun p => spec_l4Cross.f k p.1 p.2.1 }
noncomputable def spec_l4Cross.c (k : Nat) : List (Nat × CE) := []
noncomputable def spec_l4Cross.bd : Code := match Try.f134.body with | some c => c | none => .skip
noncomputable def spec_l4Cross.g (k : Nat) : List (Nat × LE) := []
theorem spec_l4Cross.link (k : Nat) (a0 : S4) (a1 : S4) : evFun (mkCx Try.prog (spec_l4Cross.c k) (spec_l4Cross.g k) : Cx S3) Try.f134 ((spec_l4Cross.e k).args.enc (a0, a1, ())) (spec_l4Cross.e k).ret.dec = spec_l4Cross.f k a0 a1 := by kernel_rfl
theorem spec_l4Cross.ok1 (k : Nat) (hC : AllFun Try.prog (spec_l4Cross.c k)) : Fun Try.prog 134 (spec_l4Cross.e k).G := fun_ok mixed (body := spec_l4Cross.bd) Try.func134 (by kernel_rfl) (by kernel_rfl) (by kernel_rfl) hC (loops_all 0 (by kernel_rfl) fun i hi => absurd hi (Nat.not_lt_zero i)) (spec_l4Cross.e k) (fun a => Nat.le_of_ble_eq_true (by kernel_rfl)) fun a b h => (spec_l4Cross.link k a.1 a.2.1).trans h
theorem spec_l4Cross.ok (k : Nat) : Fun Try.prog 134 (spec_l4Cross.e k).G := spec_l4Cross.ok1 k trivial

noncomputable def spec_l4Parallel.f (k : Nat) (a0 : S4) (a1 : S4) : Option Int :=
  (spec_l4Cross.f k  a0 a1).bind fun t1 => if (!((t1.x == 0) && ((t1.y == 0) && (t1.z == 0)))) = true then (some 0) else ((spec_l3Sign.f k  (W ((W ((W (a0.a * a1.a)) + (W (a0.b * a1.b)))) + (W (a0.c * a1.c))))).bind fun t2 => some t2)
noncomputable def spec_l4Parallel.e (k : Nat) : FE := { α := S4 × S4 × Unit, β := Int, args := (lCons aS4 (lCons aS4 lNil)), ret := (rOne (aI .i64)), f := fun p => spec_l4Parallel.f k p.1 p.2.1 }
noncomputable def spec_l4Parallel.c (k : Nat) : List (Nat × CE) := [(134, .fn (spec_l4Cross.e k)), (130, .fn (spec_l3Sign.e k))]
noncomputable def spec_l4Parallel.bd : Code := match Try.f132.body with | some c => c | none => .skip
noncomputable def spec_l4Parallel.g (k : Nat) : List (Nat × LE) := []
theorem spec_l4Parallel.link (k : Nat) (a0 : S4) (a1 : S4) : evFun (mkCx Try.prog (spec_l4Parallel.c k) (spec_l4Parallel.g k) : Cx Int) Try.f132 ((spec_l4Parallel.e k).args.enc (a0, a1, ())) (spec_l4Parallel.e k).ret.dec = spec_l4Parallel.f k a0 a1 := by kernel_rfl
theorem spec_l4Parallel.ok1 (k : Nat) (hC : AllFun Try.prog (spec_l4Parallel.c k)) : Fun Try.prog 132 (spec_l4Parallel.e k).G := fun_ok mixed (body := spec_l4Parallel.bd) Try.func132 (by kernel_rfl) (by kernel_rfl) (by kernel_rfl) hC (loops_all 0 (by kernel_rfl) fun i hi => absurd hi (Nat.not_lt_zero i)) (spec_l4Parallel.e k) (fun a => Nat.le_of_ble_eq_true (by kernel_rfl)) fun a b h => (spec_l4Parallel.link k a.1 a.2.1).trans h
theorem spec_l4Parallel.ok (k : Nat) : Fun Try.prog 132 (spec_l4Parallel.e k).G := spec_l4Parallel.ok1 k ⟨spec_l4Cross.ok k, spec_l3Sign.ok k, trivial⟩

noncomputable def spec_l6Clash2.f (k : Nat) (a0 : S4) (a1 : S4) : Option Bool :=
  (spec_l4Parallel.f k  a0 a1).bind fun t1 => if (decide (t1 ≥ 0)) = true then (some false) else ((spec_l3Abs.f k  a1.a).bind fun t2 => (spec_l3Abs.f k  a1.b).bind fun t3 => (spec_l3Abs.f k  a1.c).bind fun t4 => (spec_l3Abs.f k  a0.a).bind fun t5 => (spec_l3Abs.f k  a0.b).bind fun t6 => (spec_l3Abs.f k  a0.c).bind fun t7 => some (decide ((W ((W ((W ((W (t2 + t3)) + t4)) * a0.d)) + (W ((W ((W (t5 + t6)) + t7)) * a1.d)))) ≤ 0)))
noncomputable def spec_l6Clash2.e (k : Nat) : FE := { α := S4 × S4 × Unit, β := Bool, args := (lCons aS4 (lCons aS4 lNil)), ret := (rOne aB), f := fun p => spec_l6Clash2.f k p.1 p.2.1 }
noncomputable def spec_l6Clash2.c (k : Nat) : List (Nat × CE) := [(132, .fn (spec_l4Parallel.e k)), (119, .fn (spec_l3Abs.e k))]
noncomputable def spec_l6Clash2.bd : Code := match Try.f120.body with | some c => c | none => .skip
noncomputable def spec_l6Clash2.g (k : Nat) : List (Nat × LE) := []
theorem spec_l6Clash2.link (k : Nat) (a0 : S4) (a1 : S4) : evFun (mkCx Try.prog (spec_l6Clash2.c k) (spec_l6Clash2.g k) : Cx Bool) Try.f120 ((spec_l6Clash2.e k).args.enc (a0, a1, ())) (spec_l6Clash2.e k).ret.dec = spec_l6Clash2.f k a0 a1 := by kernel_rfl
theorem spec_l6Clash2.ok1 (k : Nat) (hC : AllFun Try.prog (spec_l6Clash2.c k)) : Fun Try.prog 120 (spec_l6Clash2.e k).G := fun_ok mixed (body := spec_l6Clash2.bd) Try.func120 (by kernel_rfl) (by kernel_rfl) (by kernel_rfl) hC (loops_all 0 (by kernel_rfl) fun i hi => absurd hi (Nat.not_lt_zero i)) (spec_l6Clash2.e k) (fun a => Nat.le_of_ble_eq_true (by kernel_rfl)) fun a b h => (spec_l6Clash2.link k a.1 a.2.1).trans h
theorem spec_l6Clash2.ok (k : Nat) : Fun Try.prog 120 (spec_l6Clash2.e k).G := spec_l6Clash2.ok1 k ⟨spec_l4Parallel.ok k, spec_l3Abs.ok k, trivial⟩

noncomputable def spec_l4Det3.f (k : Nat) (a0 : S4) (a1 : S4) (a2 : S4) : Option Int :=
  (spec_l4Cross.f k  a1 a2).bind fun t1 => some (W ((W ((W (a0.a * t1.x)) + (W (a0.b * t1.y)))) + (W (a0.c * t1.z))))
noncomputable def spec_l4Det3.e (k : Nat) : FE := { α := S4 × S4 × S4 × Unit, β := Int, args := (lCons aS4 (lCons aS4 (lCons aS4 lNil))), ret := (rOne (aI .i64)), f := fun p => spec_l4Det3.f k p.1 p.2.1 p.2.2.1 }
noncomputable def spec_l4Det3.c (k : Nat) : List (Nat × CE) := [(134, .fn (spec_l4Cross.e k))]
noncomputable def spec_l4Det3.bd : Code := match Try.f133.body with | some c => c | none => .skip
noncomputable def spec_l4Det3.g (k : Nat) : List (Nat × LE) := []
theorem spec_l4Det3.link (k : Nat) (a0 : S4) (a1 : S4) (a2 : S4) : evFun (mkCx Try.prog (spec_l4Det3.c k) (spec_l4Det3.g k) : Cx Int) Try.f133 ((spec_l4Det3.e k).args.enc (a0, a1, a2, ())) (spec_l4Det3.e k).ret.dec = spec_l4Det3.f k a0 a1 a2 := by kernel_rfl
theorem spec_l4Det3.ok1 (k : Nat) (hC : AllFun Try.prog (spec_l4Det3.c k)) : Fun Try.prog 133 (spec_l4Det3.e k).G := fun_ok mixed (body := spec_l4Det3.bd) Try.func133 (by kernel_rfl) (by kernel_rfl) (by kernel_rfl) hC (loops_all 0 (by kernel_rfl) fun i hi => absurd hi (Nat.not_lt_zero i)) (spec_l4Det3.e k) (fun a => Nat.le_of_ble_eq_true (by kernel_rfl)) fun a b h => (spec_l4Det3.link k a.1 a.2.1 a.2.2.1).trans h
theorem spec_l4Det3.ok (k : Nat) : Fun Try.prog 133 (spec_l4Det3.e k).G := spec_l4Det3.ok1 k ⟨spec_l4Cross.ok k, trivial⟩

noncomputable def spec_l6Sum.H5 : Hd := ⟨[], [0, 1, 5, 6, 7, 8], []⟩
@[reducible] def spec_l6Sum.A5 : Type := (((List Int) × (List Int) × Bool × Bool × Int × Int × Unit) × (Unit))
noncomputable def spec_l6Sum.Z5 : SC spec_l6Sum.A5 := sC spec_l6Sum.H5 (eCons 0 (tP (aSl (.i .i64))) (eCons 1 (tP (aSl (.i .i64))) (eCons 5 (tP aB) (eCons 6 (tP aB) (eCons 7 (tP (aI .i64)) (eCons 8 (tP (aI .i64)) eNil)))))) bNil
@[reducible] def spec_l6Sum.B5 : Type := ((Bool × Bool × Int × Unit) × (Unit))
noncomputable def spec_l6Sum.X5 : XC spec_l6Sum.B5 := xExit 0 (sC ⟨[], [5, 6, 7], []⟩ (eCons 5 (tP aB) (eCons 6 (tP aB) (eCons 7 (tP (aI .i64)) eNil))) bNil)
noncomputable def spec_l6Sum.s5 (k : Nat)  (J : (List Int) → (List Int) → Bool → Bool → Int → Int → Option spec_l6Sum.B5) (x0 : List Int) (x1 : List Int) (x5 : Bool) (x6 : Bool) (x7 : Int) (x8 : Int) : Option spec_l6Sum.B5 :=
  if (decide (x8 < (x0.length : Int))) = true then (if x5 = true then (if 0 ≤ x8 then (if x8 < (x0.length : Int) then (if x6 = true then (if 0 ≤ x8 then (if x8 < (x0.length : Int) then (if 0 ≤ x8 then (if x8 < (x0.length : Int) then ((spec_l3Abs.f k  (rd x0 x8)).bind fun t1 => if 0 ≤ x8 then (if x8 < (x1.length : Int) then (J x0 x1 (decide ((rd x0 x8) > 0)) (decide ((rd x0 x8) < 0)) (W (x7 + (W (t1 * (rd x1 x8))))) (W (x8 + 1))) else none) else none) else none) else none) else none) else none) else (if 0 ≤ x8 then (if x8 < (x0.length : Int) then ((spec_l3Abs.f k  (rd x0 x8)).bind fun t2 => if 0 ≤ x8 then (if x8 < (x1.length : Int) then (J x0 x1 (decide ((rd x0 x8) > 0)) false (W (x7 + (W (t2 * (rd x1 x8))))) (W (x8 + 1))) else none) else none) else none) else none)) else none) else none) else (if x6 = true then (if 0 ≤ x8 then (if x8 < (x0.length : Int) then (if 0 ≤ x8 then (if x8 < (x0.length : Int) then ((spec_l3Abs.f k  (rd x0 x8)).bind fun t3 => if 0 ≤ x8 then (if x8 < (x1.length : Int) then (J x0 x1 false (decide ((rd x0 x8) < 0)) (W (x7 + (W (t3 * (rd x1 x8))))) (W (x8 + 1))) else none) else none) else none) else none) else none) else none) else (if 0 ≤ x8 then (if x8 < (x0.length : Int) then ((spec_l3Abs.f k  (rd x0 x8)).bind fun t4 => if 0 ≤ x8 then (if x8 < (x1.length : Int) then (J x0 x1 false false (W (x7 + (W (t4 * (rd x1 x8))))) (W (x8 + 1))) else none) else none) else none) else none))) else (some ((x5, x6, x7, ()), (())))
noncomputable def spec_l6Sum.l5 (k : Nat)  : Nat → (List Int) → (List Int) → Bool → Bool → Int → Int → Option spec_l6Sum.B5
  | 0, _, _, _, _, _, _ => none
  | n + 1, x0, x1, x5, x6, x7, x8 => spec_l6Sum.s5 k (spec_l6Sum.l5 k n) x0 x1 x5 x6 x7 x8
noncomputable def spec_l6Sum.f (k : Nat) (a0 : List Int) (a1 : List Int) : Option Bool :=
  (spec_l6Sum.l5 k k a0 a1 true true 0 0).bind fun x5 => if x5.1.1 = true then (some (decide (x5.1.2.2.1 ≤ 0))) else (if x5.1.2.1 = true then (some (decide (x5.1.2.2.1 ≤ 0))) else (some false))
noncomputable def spec_l6Sum.e (k : Nat) : FE := { α := (List Int) × (List Int) × Unit, β := Bool, args := (lCons (aSl (.i .i64)) (lCons (aSl (.i .i64)) lNil)), ret := (rOne aB), f := fun p => spec_l6Sum.f k p.1 p.2.1 }
noncomputable def spec_l6Sum.c (k : Nat) : List (Nat × CE) := [(119, .fn (spec_l3Abs.e k))]
noncomputable def spec_l6Sum.bd : Code := match Try.f135.body with | some c => c | none => .skip
noncomputable def spec_l6Sum.e5 (k : Nat) : LE := { H := spec_l6Sum.H5, α := spec_l6Sum.A5, β := spec_l6Sum.B5, st := spec_l6Sum.Z5, xt := spec_l6Sum.X5, f := fun p => spec_l6Sum.l5 k k p.1.1 p.1.2.1 p.1.2.2.1 p.1.2.2.2.1 p.1.2.2.2.2.1 p.1.2.2.2.2.2.1 }
noncomputable def spec_l6Sum.g (k : Nat) : List (Nat × LE) := [(5, spec_l6Sum.e5 k)]
theorem spec_l6Sum.t5 (k : Nat) (I : S2 → Option spec_l6Sum.B5) (x0 : List Int) (x1 : List Int) (x5 : Bool) (x6 : Bool) (x7 : Int) (x8 : Int) : stepOf (mkCx Try.prog (spec_l6Sum.c k) (spec_l6Sum.g k) : Cx spec_l6Sum.B5) (loopAt spec_l6Sum.bd 0) spec_l6Sum.H5 spec_l6Sum.X5.dec I (spec_l6Sum.Z5.enc ((x0, x1, x5, x6, x7, x8, ()), (()))) = spec_l6Sum.s5 k (fun x0 x1 x5 x6 x7 x8 => I (spec_l6Sum.Z5.enc ((x0, x1, x5, x6, x7, x8, ()), (())))) x0 x1 x5 x6 x7 x8 := by kernel_rfl
theorem spec_l6Sum.i5 (k : Nat) : ∀ (n : Nat) (x0 : List Int) (x1 : List Int) (x5 : Bool) (x6 : Bool) (x7 : Int) (x8 : Int), iter (evCode (mkCx Try.prog (spec_l6Sum.c k) (spec_l6Sum.g k) : Cx spec_l6Sum.B5) (loopAt spec_l6Sum.bd 0)) spec_l6Sum.H5 spec_l6Sum.X5.dec n (spec_l6Sum.Z5.enc ((x0, x1, x5, x6, x7, x8, ()), (()))) = spec_l6Sum.l5 k n x0 x1 x5 x6 x7 x8
  | 0, _, _, _, _, _, _ => rfl
  | n + 1, x0, x1, x5, x6, x7, x8 => ((iter_step _ _ _ _ n _).trans (spec_l6Sum.t5 k _ x0 x1 x5 x6 x7 x8)).trans (congrArg (fun J => spec_l6Sum.s5 k J x0 x1 x5 x6 x7 x8) (funext fun x0 => funext fun x1 => funext fun x5 => funext fun x6 => funext fun x7 => funext fun x8 => spec_l6Sum.i5 k n x0 x1 x5 x6 x7 x8))
theorem spec_l6Sum.to5 (k : Nat) (hC : AllFun Try.prog (spec_l6Sum.c k)) : LoopTo Try.prog 51 (spec_l6Sum.e5 k) (loopAt spec_l6Sum.bd 0) := loop_to mixed hC (by kernel_rfl) (loops_all 0 (by kernel_rfl) fun i hi => absurd hi (Nat.not_lt_zero i)) fun a b h => ⟨k, (spec_l6Sum.i5 k k a.1.1 a.1.2.1 a.1.2.2.1 a.1.2.2.2.1 a.1.2.2.2.2.1 a.1.2.2.2.2.2.1).trans h⟩
theorem spec_l6Sum.link (k : Nat) (a0 : List Int) (a1 : List Int) : evFun (mkCx Try.prog (spec_l6Sum.c k) (spec_l6Sum.g k) : Cx Bool) Try.f135 ((spec_l6Sum.e k).args.enc (a0, a1, ())) (spec_l6Sum.e k).ret.dec = spec_l6Sum.f k a0 a1 := by kernel_rfl
theorem spec_l6Sum.ok1 (k : Nat) (hC : AllFun Try.prog (spec_l6Sum.c k)) : Fun Try.prog 135 (spec_l6Sum.e k).G := fun_ok mixed (body := spec_l6Sum.bd) Try.func135 (by kernel_rfl) (by kernel_rfl) (by kernel_rfl) hC (loops_all 1 (by kernel_rfl) fun i hi => by obtain rfl : i = 0 := Nat.lt_one_iff.1 hi; exact ⟨spec_l6Sum.e5 k, by kernel_rfl, spec_l6Sum.to5 k hC⟩) (spec_l6Sum.e k) (fun a => Nat.le_of_ble_eq_true (by kernel_rfl)) fun a b h => (spec_l6Sum.link k a.1 a.2.1).trans h
theorem spec_l6Sum.ok (k : Nat) : Fun Try.prog 135 (spec_l6Sum.e k).G := spec_l6Sum.ok1 k ⟨spec_l3Abs.ok k, trivial⟩

noncomputable def spec_l6Clash3.H7 : Hd := ⟨[], [3, 4, 5, 7, 8, 9, 10], [3, 4, 5, 7, 8, 9]⟩
@[reducible] def spec_l6Clash3.A7 : Type := ((Unit × Unit × Unit × Unit × Unit × Unit × Int × Unit) × (S4 × S4 × S4 × S3 × S3 × S3 × Unit))
noncomputable def spec_l6Clash3.Z7 : SC spec_l6Clash3.A7 := sC spec_l6Clash3.H7 (eCons 3 (tRef 3 0) (eCons 4 (tRef 4 0) (eCons 5 (tRef 5 0) (eCons 7 (tRef 7 0) (eCons 8 (tRef 8 0) (eCons 9 (tRef 9 0) (eCons 10 (tP (aI .i64)) eNil))))))) (bCons 3 (xVr cS4) (bCons 4 (xVr cS4) (bCons 5 (xVr cS4) (bCons 7 (xVr cS3) (bCons 8 (xVr cS3) (bCons 9 (xVr cS3) bNil))))))
@[reducible] def spec_l6Clash3.B7 : Type := ((Bool × Unit) × (Unit)) ⊕ ((Unit) × (Unit))
noncomputable def spec_l6Clash3.X7 : XC spec_l6Clash3.B7 := xOr (xRet (sC ⟨[], [6], []⟩ (eCons 6 (tP aB) eNil) bNil)) (xExit 0 (sC ⟨[], [], []⟩ eNil bNil))
noncomputable def spec_l6Clash3.s7 (k : Nat)  (J : Int → S4 → S4 → S4 → S3 → S3 → S3 → Option spec_l6Clash3.B7) (x10 : Int) (b3 : S4) (b4 : S4) (b5 : S4) (b7 : S3) (b8 : S3) (b9 : S3) : Option spec_l6Clash3.B7 :=
  if (decide (x10 < 3)) = true then (if 0 ≤ x10 then (if x10 < 3 then (if ((sel [b7.x, b7.y, b7.z] x10) != 0) = true then (if 0 ≤ x10 then (if x10 < 3 then (if 0 ≤ x10 then (if x10 < 3 then (if 0 ≤ x10 then (if x10 < 3 then ((spec_l6Sum.f k  ([(sel [b7.x, b7.y, b7.z] x10), (sel [b8.x, b8.y, b8.z] x10), (sel [b9.x, b9.y, b9.z] x10)] : List Int) ([b3.d, b4.d, b5.d] : List Int)).bind fun t5 => some (.inl ((t5, ()), (())))) else none) else none) else none) else none) else none) else none) else (if 0 ≤ x10 then (if x10 < 3 then (if ((sel [b8.x, b8.y, b8.z] x10) != 0) = true then (if 0 ≤ x10 then (if x10 < 3 then (if 0 ≤ x10 then (if x10 < 3 then (if 0 ≤ x10 then (if x10 < 3 then ((spec_l6Sum.f k  ([(sel [b7.x, b7.y, b7.z] x10), (sel [b8.x, b8.y, b8.z] x10), (sel [b9.x, b9.y, b9.z] x10)] : List Int) ([b3.d, b4.d, b5.d] : List Int)).bind fun t6 => some (.inl ((t6, ()), (())))) else none) else none) else none) else none) else none) else none) else (if 0 ≤ x10 then (if x10 < 3 then (if ((sel [b9.x, b9.y, b9.z] x10) != 0) = true then (if 0 ≤ x10 then (if x10 < 3 then (if 0 ≤ x10 then (if x10 < 3 then (if 0 ≤ x10 then (if x10 < 3 then ((spec_l6Sum.f k  ([(sel [b7.x, b7.y, b7.z] x10), (sel [b8.x, b8.y, b8.z] x10), (sel [b9.x, b9.y, b9.z] x10)] : List Int) ([b3.d, b4.d, b5.d] : List Int)).bind fun t7 => some (.inl ((t7, ()), (())))) else none) else none) else none) else none) else none) else none) else (J (W (x10 + 1)) b3 b4 b5 b7 b8 b9)) else none) else none)) else none) else none)) else none) else none) else (some (.inr ((()), (()))))
noncomputable def spec_l6Clash3.l7 (k : Nat)  : Nat → Int → S4 → S4 → S4 → S3 → S3 → S3 → Option spec_l6Clash3.B7
  | 0, _, _, _, _, _, _, _ => none
  | n + 1, x10, b3, b4, b5, b7, b8, b9 => spec_l6Clash3.s7 k (spec_l6Clash3.l7 k n) x10 b3 b4 b5 b7 b8 b9
noncomputable def spec_l6Clash3.f (k : Nat) (a0 : S4) (a1 : S4) (a2 : S4) : Option Bool :=
  (spec_l4Det3.f k  a0 a1 a2).bind fun t1 => if (t1 != 0) = true then (some false) else ((spec_l4Cross.f k  a1 a2).bind fun t2 => (spec_l4Cross.f k  a2 a0).bind fun t3 => (spec_l4Cross.f k  a0 a1).bind fun t4 => (spec_l6Clash3.l7 k k 0 a0 a1 a2 t2 t3 t4).bind fun | .inl r8 => (some r8.1.1) | .inr x9 => (some false))
noncomputable def spec_l6Clash3.e (k : Nat) : FE := { α := S4 × S4 × S4 × Unit, β := Bool, args := (lCons aS4 (lCons aS4 (lCons aS4 lNil))), ret := (rOne aB), f := fun p => spec_l6Clash3.f k p.1 p.2.1 p.2.2.1 }
noncomputable def spec_l6Clash3.c (k : Nat) : List (Nat × CE) := [(133, .fn (spec_l4Det3.e k)), (134, .fn (spec_l4Cross.e k)), (135, .fn (spec_l6Sum.e k))]
noncomputable def spec_l6Clash3.bd : Code := match Try.f121.body with | some c => c | none => .skip
noncomputable def spec_l6Clash3.e7 (k : Nat) : LE := { H := spec_l6Clash3.H7, α := spec_l6Clash3.A7, β := spec_l6Clash3.B7, st := spec_l6Clash3.Z7, xt := spec_l6Clash3.X7, f := fun p => spec_l6Clash3.l7 k k p.1.2.2.2.2.2.2.1 p.2.1 p.2.2.1 p.2.2.2.1 p.2.2.2.2.1 p.2.2.2.2.2.1 p.2.2.2.2.2.2.1 }
noncomputable def spec_l6Clash3.g (k : Nat) : List (Nat × LE) := [(7, spec_l6Clash3.e7 k)]
theorem spec_l6Clash3.t7 (k : Nat) (I : S2 → Option spec_l6Clash3.B7) (x10 : Int) (b3 : S4) (b4 : S4) (b5 : S4) (b7 : S3) (b8 : S3) (b9 : S3) : stepOf (mkCx Try.prog (spec_l6Clash3.c k) (spec_l6Clash3.g k) : Cx spec_l6Clash3.B7) (loopAt spec_l6Clash3.bd 0) spec_l6Clash3.H7 spec_l6Clash3.X7.dec I (spec_l6Clash3.Z7.enc (((), (), (), (), (), (), x10, ()), (b3, b4, b5, b7, b8, b9, ()))) = spec_l6Clash3.s7 k (fun x10 b3 b4 b5 b7 b8 b9 => I (spec_l6Clash3.Z7.enc (((), (), (), (), (), (), x10, ()), (b3, b4, b5, b7, b8, b9, ())))) x10 b3 b4 b5 b7 b8 b9 := by kernel_rfl
theorem spec_l6Clash3.i7 (k : Nat) : ∀ (n : Nat) (x10 : Int) (b3 : S4) (b4 : S4) (b5 : S4) (b7 : S3) (b8 : S3) (b9 : S3), iter (evCode (mkCx Try.prog (spec_l6Clash3.c k) (spec_l6Clash3.g k) : Cx spec_l6Clash3.B7) (loopAt spec_l6Clash3.bd 0)) spec_l6Clash3.H7 spec_l6Clash3.X7.dec n (spec_l6Clash3.Z7.enc (((), (), (), (), (), (), x10, ()), (b3, b4, b5, b7, b8, b9, ()))) = spec_l6Clash3.l7 k n x10 b3 b4 b5 b7 b8 b9
  | 0, _, _, _, _, _, _, _ => rfl
  | n + 1, x10, b3, b4, b5, b7, b8, b9 => ((iter_step _ _ _ _ n _).trans (spec_l6Clash3.t7 k _ x10 b3 b4 b5 b7 b8 b9)).trans (congrArg (fun J => spec_l6Clash3.s7 k J x10 b3 b4 b5 b7 b8 b9) (funext fun x10 => funext fun b3 => funext fun b4 => funext fun b5 => funext fun b7 => funext fun b8 => funext fun b9 => spec_l6Clash3.i7 k n x10 b3 b4 b5 b7 b8 b9))
theorem spec_l6Clash3.to7 (k : Nat) (hC : AllFun Try.prog (spec_l6Clash3.c k)) : LoopTo Try.prog 63 (spec_l6Clash3.e7 k) (loopAt spec_l6Clash3.bd 0) := loop_to mixed hC (by kernel_rfl) (loops_all 0 (by kernel_rfl) fun i hi => absurd hi (Nat.not_lt_zero i)) fun a b h => ⟨k, (spec_l6Clash3.i7 k k a.1.2.2.2.2.2.2.1 a.2.1 a.2.2.1 a.2.2.2.1 a.2.2.2.2.1 a.2.2.2.2.2.1 a.2.2.2.2.2.2.1).trans h⟩
theorem spec_l6Clash3.link (k : Nat) (a0 : S4) (a1 : S4) (a2 : S4) : evFun (mkCx Try.prog (spec_l6Clash3.c k) (spec_l6Clash3.g k) : Cx Bool) Try.f121 ((spec_l6Clash3.e k).args.enc (a0, a1, a2, ())) (spec_l6Clash3.e k).ret.dec = spec_l6Clash3.f k a0 a1 a2 := by kernel_rfl
theorem spec_l6Clash3.ok1 (k : Nat) (hC : AllFun Try.prog (spec_l6Clash3.c k)) : Fun Try.prog 121 (spec_l6Clash3.e k).G := fun_ok mixed (body := spec_l6Clash3.bd) Try.func121 (by kernel_rfl) (by kernel_rfl) (by kernel_rfl) hC (loops_all 1 (by kernel_rfl) fun i hi => by obtain rfl : i = 0 := Nat.lt_one_iff.1 hi; exact ⟨spec_l6Clash3.e7 k, by kernel_rfl, spec_l6Clash3.to7 k hC⟩) (spec_l6Clash3.e k) (fun a => Nat.le_of_ble_eq_true (by kernel_rfl)) fun a b h => (spec_l6Clash3.link k a.1 a.2.1 a.2.2.1).trans h
theorem spec_l6Clash3.ok (k : Nat) : Fun Try.prog 121 (spec_l6Clash3.e k).G := spec_l6Clash3.ok1 k ⟨spec_l4Det3.ok k, spec_l4Cross.ok k, spec_l6Sum.ok k, trivial⟩

noncomputable def spec_l6Clash4.f (k : Nat) (a0 : S4) (a1 : S4) (a2 : S4) (a3 : S4) : Option Bool :=
  (spec_l4Det3.f k  a1 a2 a3).bind fun t1 => (spec_l4Det3.f k  a0 a2 a3).bind fun t2 => (spec_l4Det3.f k  a0 a1 a3).bind fun t3 => (spec_l4Det3.f k  a0 a1 a2).bind fun t4 => (spec_l6Sum.f k  ([t1, (W (0 - t2)), t3, (W (0 - t4))] : List Int) ([a0.d, a1.d, a2.d, a3.d] : List Int)).bind fun t5 => some t5
noncomputable def spec_l6Clash4.e (k : Nat) : FE := { α := S4 × S4 × S4 × S4 × Unit, β := Bool, args := (lCons aS4 (lCons aS4 (lCons aS4 (lCons aS4 lNil)))), ret := (rOne aB), f := fun p => spec_l6Clash4.f k p.1 p.2.1 p.2.2.1 p.2.2.2.1 }
noncomputable def spec_l6Clash4.c (k : Nat) : List (Nat × CE) := [(133, .fn (spec_l4Det3.e k)), (135, .fn (spec_l6Sum.e k))]
noncomputable def spec_l6Clash4.bd : Code := match Try.f122.body with | some c => c | none => .skip
noncomputable def spec_l6Clash4.g (k : Nat) : List (Nat × LE) := []
theorem spec_l6Clash4.link (k : Nat) (a0 : S4) (a1 : S4) (a2 : S4) (a3 : S4) : evFun (mkCx Try.prog (spec_l6Clash4.c k) (spec_l6Clash4.g k) : Cx Bool) Try.f122 ((spec_l6Clash4.e k).args.enc (a0, a1, a2, a3, ())) (spec_l6Clash4.e k).ret.dec = spec_l6Clash4.f k a0 a1 a2 a3 := by kernel_rfl
theorem spec_l6Clash4.ok1 (k : Nat) (hC : AllFun Try.prog (spec_l6Clash4.c k)) : Fun Try.prog 122 (spec_l6Clash4.e k).G := fun_ok mixed (body := spec_l6Clash4.bd) Try.func122 (by kernel_rfl) (by kernel_rfl) (by kernel_rfl) hC (loops_all 0 (by kernel_rfl) fun i hi => absurd hi (Nat.not_lt_zero i)) (spec_l6Clash4.e k) (fun a => Nat.le_of_ble_eq_true (by kernel_rfl)) fun a b h => (spec_l6Clash4.link k a.1 a.2.1 a.2.2.1 a.2.2.2.1).trans h
theorem spec_l6Clash4.ok (k : Nat) : Fun Try.prog 122 (spec_l6Clash4.e k).G := spec_l6Clash4.ok1 k ⟨spec_l4Det3.ok k, spec_l6Sum.ok k, trivial⟩

end Go.Proofs.Ytfgaeenlnkioaaa.G
