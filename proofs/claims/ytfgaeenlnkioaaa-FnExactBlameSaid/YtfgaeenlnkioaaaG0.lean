/- Go functions told as plain Lean functions; that the code does what these tell. Printed by a program of the session (evp.py). -/
import Derived.Test.YtfgaeenlnkioaaaEv16
namespace Go.Proofs.Ytfgaeenlnkioaaa.G
open Go Go.RowKit Go.Proofs Go.Proofs.Ytfgaeenlnkioaaa.Ev
set_option linter.unusedVariables false
set_option maxRecDepth 100000

noncomputable def spec_l1In.f (k : Nat) (a0 : Int) (a1 : Int) (a2 : Int) : Option Bool :=
  if (decide (a0 ≥ a1)) = true then (some (decide (a0 ≤ a2))) else (some false)
noncomputable def spec_l1In.e (k : Nat) : FE := { α := Int × Int × Int × Unit, β := Bool, args := (lCons (aI .i64) (lCons (aI .i64) (lCons (aI .i64) lNil))), ret := (rOne aB), f := fun p => spec_l1In.f k p.1 p.2.1 p.2.2.1 }
noncomputable def spec_l1In.c (k : Nat) : List (Nat × CE) := []
noncomputable def spec_l1In.bd : Code := match Try.f112.body with | some c => c | none => .skip
noncomputable def spec_l1In.g (k : Nat) : List (Nat × LE) := []
theorem spec_l1In.link (k : Nat) (a0 : Int) (a1 : Int) (a2 : Int) : evFun (mkCx Try.prog (spec_l1In.c k) (spec_l1In.g k) : Cx Bool) Try.f112 ((spec_l1In.e k).args.enc (a0, a1, a2, ())) (spec_l1In.e k).ret.dec = spec_l1In.f k a0 a1 a2 := by kernel_rfl
theorem spec_l1In.ok1 (k : Nat) (hC : AllFun Try.prog (spec_l1In.c k)) : Fun Try.prog 112 (spec_l1In.e k).G := fun_ok mixed (body := spec_l1In.bd) Try.func112 (by kernel_rfl) (by kernel_rfl) (by kernel_rfl) hC (loops_all 0 (by kernel_rfl) fun i hi => absurd hi (Nat.not_lt_zero i)) (spec_l1In.e k) (fun a => Nat.le_of_ble_eq_true (by kernel_rfl)) fun a b h => (spec_l1In.link k a.1 a.2.1 a.2.2.1).trans h
theorem spec_l1In.ok (k : Nat) : Fun Try.prog 112 (spec_l1In.e k).G := spec_l1In.ok1 k trivial

noncomputable def spec_l3In.f (k : Nat) (a0 : S4) : Option Bool :=
  (spec_l1In.f k  a0.a (W (0 - 500)) 500).bind fun t1 => if t1 = true then ((spec_l1In.f k  a0.b (W (0 - 500)) 500).bind fun t2 => if t2 = true then ((spec_l1In.f k  a0.c (W (0 - 500)) 500).bind fun t3 => if t3 = true then ((spec_l1In.f k  a0.d (W (0 - 500)) 500).bind fun t4 => some t4) else (some false)) else (some false)) else (some false)
noncomputable def spec_l3In.e (k : Nat) : FE := { α := S4 × Unit, β := Bool, args := (lCons aS4 lNil), ret := (rOne aB), f := fun p => spec_l3In.f k p.1 }
noncomputable def spec_l3In.c (k : Nat) : List (Nat × CE) := [(112, .fn (spec_l1In.e k))]
noncomputable def spec_l3In.bd : Code := match Try.f99.body with | some c => c | none => .skip
noncomputable def spec_l3In.g (k : Nat) : List (Nat × LE) := []
theorem spec_l3In.link (k : Nat) (a0 : S4) : evFun (mkCx Try.prog (spec_l3In.c k) (spec_l3In.g k) : Cx Bool) Try.f99 ((spec_l3In.e k).args.enc (a0, ())) (spec_l3In.e k).ret.dec = spec_l3In.f k a0 := by kernel_rfl
theorem spec_l3In.ok1 (k : Nat) (hC : AllFun Try.prog (spec_l3In.c k)) : Fun Try.prog 99 (spec_l3In.e k).G := fun_ok mixed (body := spec_l3In.bd) Try.func99 (by kernel_rfl) (by kernel_rfl) (by kernel_rfl) hC (loops_all 0 (by kernel_rfl) fun i hi => absurd hi (Nat.not_lt_zero i)) (spec_l3In.e k) (fun a => Nat.le_of_ble_eq_true (by kernel_rfl)) fun a b h => (spec_l3In.link k a.1).trans h
theorem spec_l3In.ok (k : Nat) : Fun Try.prog 99 (spec_l3In.e k).G := spec_l3In.ok1 k ⟨spec_l1In.ok k, trivial⟩

noncomputable def spec_l3Abs.f (k : Nat) (a0 : Int) : Option Int :=
  if (decide (a0 < 0)) = true then (some (W (0 - a0))) else (some a0)
noncomputable def spec_l3Abs.e (k : Nat) : FE := { α := Int × Unit, β := Int, args := (lCons (aI .i64) lNil), ret := (rOne (aI .i64)), f := fun p => spec_l3Abs.f k p.1 }
noncomputable def spec_l3Abs.c (k : Nat) : List (Nat × CE) := []
noncomputable def spec_l3Abs.bd : Code := match Try.f119.body with | some c => c | none => .skip
noncomputable def spec_l3Abs.g (k : Nat) : List (Nat × LE) := []
theorem spec_l3Abs.link (k : Nat) (a0 : Int) : evFun (mkCx Try.prog (spec_l3Abs.c k) (spec_l3Abs.g k) : Cx Int) Try.f119 ((spec_l3Abs.e k).args.enc (a0, ())) (spec_l3Abs.e k).ret.dec = spec_l3Abs.f k a0 := by kernel_rfl
theorem spec_l3Abs.ok1 (k : Nat) (hC : AllFun Try.prog (spec_l3Abs.c k)) : Fun Try.prog 119 (spec_l3Abs.e k).G := fun_ok mixed (body := spec_l3Abs.bd) Try.func119 (by kernel_rfl) (by kernel_rfl) (by kernel_rfl) hC (loops_all 0 (by kernel_rfl) fun i hi => absurd hi (Nat.not_lt_zero i)) (spec_l3Abs.e k) (fun a => Nat.le_of_ble_eq_true (by kernel_rfl)) fun a b h => (spec_l3Abs.link k a.1).trans h
theorem spec_l3Abs.ok (k : Nat) : Fun Try.prog 119 (spec_l3Abs.e k).G := spec_l3Abs.ok1 k trivial

noncomputable def spec_l3Gcd.H3 : Hd := ⟨[], [0, 1], []⟩
@[reducible] def spec_l3Gcd.A3 : Type := ((Int × Int × Unit) × (Unit))
noncomputable def spec_l3Gcd.Z3 : SC spec_l3Gcd.A3 := sC spec_l3Gcd.H3 (eCons 0 (tP (aI .i64)) (eCons 1 (tP (aI .i64)) eNil)) bNil
@[reducible] def spec_l3Gcd.B3 : Type := ((Int × Unit) × (Unit))
noncomputable def spec_l3Gcd.X3 : XC spec_l3Gcd.B3 := xExit 0 (sC ⟨[], [0], []⟩ (eCons 0 (tP (aI .i64)) eNil) bNil)
noncomputable def spec_l3Gcd.s3 (k : Nat)  (J : Int → Int → Option spec_l3Gcd.B3) (x0 : Int) (x1 : Int) : Option spec_l3Gcd.B3 :=
  if (decide (x1 > 0)) = true then (if x1 = 0 then none else (J x1 (x0.tmod x1))) else (some ((x0, ()), (())))
noncomputable def spec_l3Gcd.l3 (k : Nat)  : Nat → Int → Int → Option spec_l3Gcd.B3
  | 0, _, _ => none
  | n + 1, x0, x1 => spec_l3Gcd.s3 k (spec_l3Gcd.l3 k n) x0 x1
noncomputable def spec_l3Gcd.f (k : Nat) (a0 : Int) (a1 : Int) : Option Int :=
  (spec_l3Abs.f k  a0).bind fun t1 => (spec_l3Abs.f k  a1).bind fun t2 => (spec_l3Gcd.l3 k k t1 t2).bind fun x3 => some x3.1.1
noncomputable def spec_l3Gcd.e (k : Nat) : FE := { α := Int × Int × Unit, β := Int, args := (lCons (aI .i64) (lCons (aI .i64) lNil)), ret := (rOne (aI .i64)), f := fun p => spec_l3Gcd.f k p.1 p.2.1 }
noncomputable def spec_l3Gcd.c (k : Nat) : List (Nat × CE) := [(119, .fn (spec_l3Abs.e k))]
noncomputable def spec_l3Gcd.bd : Code := match Try.f100.body with | some c => c | none => .skip
noncomputable def spec_l3Gcd.e3 (k : Nat) : LE := { H := spec_l3Gcd.H3, α := spec_l3Gcd.A3, β := spec_l3Gcd.B3, st := spec_l3Gcd.Z3, xt := spec_l3Gcd.X3, f := fun p => spec_l3Gcd.l3 k k p.1.1 p.1.2.1 }
noncomputable def spec_l3Gcd.g (k : Nat) : List (Nat × LE) := [(3, spec_l3Gcd.e3 k)]
theorem spec_l3Gcd.t3 (k : Nat) (I : S2 → Option spec_l3Gcd.B3) (x0 : Int) (x1 : Int) : stepOf (mkCx Try.prog (spec_l3Gcd.c k) (spec_l3Gcd.g k) : Cx spec_l3Gcd.B3) (loopAt spec_l3Gcd.bd 0) spec_l3Gcd.H3 spec_l3Gcd.X3.dec I (spec_l3Gcd.Z3.enc ((x0, x1, ()), (()))) = spec_l3Gcd.s3 k (fun x0 x1 => I (spec_l3Gcd.Z3.enc ((x0, x1, ()), (())))) x0 x1 := by kernel_rfl
theorem spec_l3Gcd.i3 (k : Nat) : ∀ (n : Nat) (x0 : Int) (x1 : Int), iter (evCode (mkCx Try.prog (spec_l3Gcd.c k) (spec_l3Gcd.g k) : Cx spec_l3Gcd.B3) (loopAt spec_l3Gcd.bd 0)) spec_l3Gcd.H3 spec_l3Gcd.X3.dec n (spec_l3Gcd.Z3.enc ((x0, x1, ()), (()))) = spec_l3Gcd.l3 k n x0 x1
  | 0, _, _ => rfl
  | n + 1, x0, x1 => ((iter_step _ _ _ _ n _).trans (spec_l3Gcd.t3 k _ x0 x1)).trans (congrArg (fun J => spec_l3Gcd.s3 k J x0 x1) (funext fun x0 => funext fun x1 => spec_l3Gcd.i3 k n x0 x1))
theorem spec_l3Gcd.to3 (k : Nat) (hC : AllFun Try.prog (spec_l3Gcd.c k)) : LoopTo Try.prog 18 (spec_l3Gcd.e3 k) (loopAt spec_l3Gcd.bd 0) := loop_to mixed hC (by kernel_rfl) (loops_all 0 (by kernel_rfl) fun i hi => absurd hi (Nat.not_lt_zero i)) fun a b h => ⟨k, (spec_l3Gcd.i3 k k a.1.1 a.1.2.1).trans h⟩
theorem spec_l3Gcd.link (k : Nat) (a0 : Int) (a1 : Int) : evFun (mkCx Try.prog (spec_l3Gcd.c k) (spec_l3Gcd.g k) : Cx Int) Try.f100 ((spec_l3Gcd.e k).args.enc (a0, a1, ())) (spec_l3Gcd.e k).ret.dec = spec_l3Gcd.f k a0 a1 := by kernel_rfl
theorem spec_l3Gcd.ok1 (k : Nat) (hC : AllFun Try.prog (spec_l3Gcd.c k)) : Fun Try.prog 100 (spec_l3Gcd.e k).G := fun_ok mixed (body := spec_l3Gcd.bd) Try.func100 (by kernel_rfl) (by kernel_rfl) (by kernel_rfl) hC (loops_all 1 (by kernel_rfl) fun i hi => by obtain rfl : i = 0 := Nat.lt_one_iff.1 hi; exact ⟨spec_l3Gcd.e3 k, by kernel_rfl, spec_l3Gcd.to3 k hC⟩) (spec_l3Gcd.e k) (fun a => Nat.le_of_ble_eq_true (by kernel_rfl)) fun a b h => (spec_l3Gcd.link k a.1 a.2.1).trans h
theorem spec_l3Gcd.ok (k : Nat) : Fun Try.prog 100 (spec_l3Gcd.e k).G := spec_l3Gcd.ok1 k ⟨spec_l3Abs.ok k, trivial⟩

noncomputable def spec_PlaneOk.f (k : Nat) (a0 : S4) : Option Bool :=
  (spec_l3In.f k  a0).bind fun t1 => if t1 = true then (if (a0.a != 0) = true then ((spec_l3Gcd.f k  a0.a a0.b).bind fun t2 => (spec_l3Gcd.f k  a0.c a0.d).bind fun t3 => (spec_l3Gcd.f k  t2 t3).bind fun t4 => some (t4 == 1)) else (if (a0.b != 0) = true then ((spec_l3Gcd.f k  a0.a a0.b).bind fun t5 => (spec_l3Gcd.f k  a0.c a0.d).bind fun t6 => (spec_l3Gcd.f k  t5 t6).bind fun t7 => some (t7 == 1)) else (if (a0.c != 0) = true then ((spec_l3Gcd.f k  a0.a a0.b).bind fun t8 => (spec_l3Gcd.f k  a0.c a0.d).bind fun t9 => (spec_l3Gcd.f k  t8 t9).bind fun t10 => some (t10 == 1)) else (some false)))) else (some false)
noncomputable def spec_PlaneOk.e (k : Nat) : FE := { α := S4 × Unit, β := Bool, args := (lCons aS4 lNil), ret := (rOne aB), f := fun p => spec_PlaneOk.f k p.1 }
noncomputable def spec_PlaneOk.c (k : Nat) : List (Nat × CE) := [(99, .fn (spec_l3In.e k)), (100, .fn (spec_l3Gcd.e k))]
noncomputable def spec_PlaneOk.bd : Code := match Try.f57.body with | some c => c | none => .skip
noncomputable def spec_PlaneOk.g (k : Nat) : List (Nat × LE) := []
theorem spec_PlaneOk.link (k : Nat) (a0 : S4) : evFun (mkCx Try.prog (spec_PlaneOk.c k) (spec_PlaneOk.g k) : Cx Bool) Try.f57 ((spec_PlaneOk.e k).args.enc (a0, ())) (spec_PlaneOk.e k).ret.dec = spec_PlaneOk.f k a0 := by kernel_rfl
theorem spec_PlaneOk.ok1 (k : Nat) (hC : AllFun Try.prog (spec_PlaneOk.c k)) : Fun Try.prog 57 (spec_PlaneOk.e k).G := fun_ok mixed (body := spec_PlaneOk.bd) Try.func57 (by kernel_rfl) (by kernel_rfl) (by kernel_rfl) hC (loops_all 0 (by kernel_rfl) fun i hi => absurd hi (Nat.not_lt_zero i)) (spec_PlaneOk.e k) (fun a => Nat.le_of_ble_eq_true (by kernel_rfl)) fun a b h => (spec_PlaneOk.link k a.1).trans h
theorem spec_PlaneOk.ok (k : Nat) : Fun Try.prog 57 (spec_PlaneOk.e k).G := spec_PlaneOk.ok1 k ⟨spec_l3In.ok k, spec_l3Gcd.ok k, trivial⟩

noncomputable def spec_Leaf.f (k : Nat) (a0 : Bool) : Option Tree :=
  some (Tree.mk a0 ⟨0, 0, 0, 0⟩ ([] : List Tree))
noncomputable def spec_Leaf.e (k : Nat) : FE := { α := Bool × Unit, β := Tree, args := (lCons aB lNil), ret := (rOne aTree), f := fun p => spec_Leaf.f k p.1 }
noncomputable def spec_Leaf.c (k : Nat) : List (Nat × CE) := []
noncomputable def spec_Leaf.bd : Code := match Try.f58.body with | some c => c | none => .skip
noncomputable def spec_Leaf.g (k : Nat) : List (Nat × LE) := []
theorem spec_Leaf.link (k : Nat) (a0 : Bool) : evFun (mkCx Try.prog (spec_Leaf.c k) (spec_Leaf.g k) : Cx Tree) Try.f58 ((spec_Leaf.e k).args.enc (a0, ())) (spec_Leaf.e k).ret.dec = spec_Leaf.f k a0 := by kernel_rfl
theorem spec_Leaf.ok1 (k : Nat) (hC : AllFun Try.prog (spec_Leaf.c k)) : Fun Try.prog 58 (spec_Leaf.e k).G := fun_ok mixed (body := spec_Leaf.bd) Try.func58 (by kernel_rfl) (by kernel_rfl) (by kernel_rfl) hC (loops_all 0 (by kernel_rfl) fun i hi => absurd hi (Nat.not_lt_zero i)) (spec_Leaf.e k) (fun a => Nat.le_of_ble_eq_true (by kernel_rfl)) fun a b h => (spec_Leaf.link k a.1).trans h
theorem spec_Leaf.ok (k : Nat) : Fun Try.prog 58 (spec_Leaf.e k).G := spec_Leaf.ok1 k trivial

noncomputable def spec_l8Node.f (k : Nat) (a0 : S4) (a1 : Tree) (a2 : Tree) : Option Tree :=
  some (Tree.mk false a0 ([(T1 a1), (T1 a2)] : List Tree))
noncomputable def spec_l8Node.e (k : Nat) : FE := { α := S4 × Tree × Tree × Unit, β := Tree, args := (lCons aS4 (lCons aTree (lCons aTree lNil))), ret := (rOne aTree), f := fun p => spec_l8Node.f k p.1 p.2.1 p.2.2.1 }
noncomputable def spec_l8Node.c (k : Nat) : List (Nat × CE) := []
noncomputable def spec_l8Node.bd : Code := match Try.f59.body with | some c => c | none => .skip
noncomputable def spec_l8Node.g (k : Nat) : List (Nat × LE) := []
theorem spec_l8Node.link (k : Nat) (a0 : S4) (a1 : Tree) (a2 : Tree) : evFun (mkCx Try.prog (spec_l8Node.c k) (spec_l8Node.g k) : Cx Tree) Try.f59 ((spec_l8Node.e k).args.enc (a0, a1, a2, ())) (spec_l8Node.e k).ret.dec = spec_l8Node.f k a0 a1 a2 := by kernel_rfl
theorem spec_l8Node.ok1 (k : Nat) (hC : AllFun Try.prog (spec_l8Node.c k)) : Fun Try.prog 59 (spec_l8Node.e k).G := fun_ok mixed (body := spec_l8Node.bd) Try.func59 (by kernel_rfl) (by kernel_rfl) (by kernel_rfl) hC (loops_all 0 (by kernel_rfl) fun i hi => absurd hi (Nat.not_lt_zero i)) (spec_l8Node.e k) (fun a => Nat.le_of_ble_eq_true (by kernel_rfl)) fun a b h => (spec_l8Node.link k a.1 a.2.1 a.2.2.1).trans h
theorem spec_l8Node.ok (k : Nat) : Fun Try.prog 59 (spec_l8Node.e k).G := spec_l8Node.ok1 k trivial

noncomputable def spec_HalfOf.f (k : Nat) (a0 : S4) : Option (Tree × Bool × Unit) :=
  (spec_PlaneOk.f k  a0).bind fun t1 => if (!t1) = true then ((spec_Leaf.f k  false).bind fun t2 => some ((T1 t2), false, ())) else ((spec_Leaf.f k  true).bind fun t3 => (spec_Leaf.f k  false).bind fun t4 => (spec_l8Node.f k  a0 (T1 t3) (T1 t4)).bind fun t5 => some ((T1 t5), true, ()))
noncomputable def spec_HalfOf.e (k : Nat) : FE := { α := S4 × Unit, β := (Tree × Bool × Unit), args := (lCons aS4 lNil), ret := (rMany (lCons aTree (lCons aB lNil))), f := fun p => spec_HalfOf.f k p.1 }
noncomputable def spec_HalfOf.c (k : Nat) : List (Nat × CE) := [(57, .fn (spec_PlaneOk.e k)), (58, .fn (spec_Leaf.e k)), (59, .fn (spec_l8Node.e k))]
noncomputable def spec_HalfOf.bd : Code := match Try.f15.body with | some c => c | none => .skip
noncomputable def spec_HalfOf.g (k : Nat) : List (Nat × LE) := []
theorem spec_HalfOf.link (k : Nat) (a0 : S4) : evFun (mkCx Try.prog (spec_HalfOf.c k) (spec_HalfOf.g k) : Cx (Tree × Bool × Unit)) Try.f15 ((spec_HalfOf.e k).args.enc (a0, ())) (spec_HalfOf.e k).ret.dec = spec_HalfOf.f k a0 := by kernel_rfl
theorem spec_HalfOf.ok1 (k : Nat) (hC : AllFun Try.prog (spec_HalfOf.c k)) : Fun Try.prog 15 (spec_HalfOf.e k).G := fun_ok mixed (body := spec_HalfOf.bd) Try.func15 (by kernel_rfl) (by kernel_rfl) (by kernel_rfl) hC (loops_all 0 (by kernel_rfl) fun i hi => absurd hi (Nat.not_lt_zero i)) (spec_HalfOf.e k) (fun a => Nat.le_of_ble_eq_true (by kernel_rfl)) fun a b h => (spec_HalfOf.link k a.1).trans h
theorem spec_HalfOf.ok (k : Nat) : Fun Try.prog 15 (spec_HalfOf.e k).G := spec_HalfOf.ok1 k ⟨spec_PlaneOk.ok k, spec_Leaf.ok k, spec_l8Node.ok k, trivial⟩

noncomputable def laws_toPlane.f (k : Nat) (a0 : S4) : Option S4 :=
  some a0
noncomputable def laws_toPlane.e (k : Nat) : FE := { α := S4 × Unit, β := S4, args := (lCons aS4 lNil), ret := (rOne aS4), f := fun p => laws_toPlane.f k p.1 }
noncomputable def laws_toPlane.c (k : Nat) : List (Nat × CE) := []
noncomputable def laws_toPlane.bd : Code := match Try.f16.body with | some c => c | none => .skip
noncomputable def laws_toPlane.g (k : Nat) : List (Nat × LE) := []
theorem laws_toPlane.link (k : Nat) (a0 : S4) : evFun (mkCx Try.prog (laws_toPlane.c k) (laws_toPlane.g k) : Cx S4) Try.f16 ((laws_toPlane.e k).args.enc (a0, ())) (laws_toPlane.e k).ret.dec = laws_toPlane.f k a0 := by kernel_rfl
theorem laws_toPlane.ok1 (k : Nat) (hC : AllFun Try.prog (laws_toPlane.c k)) : Fun Try.prog 16 (laws_toPlane.e k).G := fun_ok mixed (body := laws_toPlane.bd) Try.func16 (by kernel_rfl) (by kernel_rfl) (by kernel_rfl) hC (loops_all 0 (by kernel_rfl) fun i hi => absurd hi (Nat.not_lt_zero i)) (laws_toPlane.e k) (fun a => Nat.le_of_ble_eq_true (by kernel_rfl)) fun a b h => (laws_toPlane.link k a.1).trans h
theorem laws_toPlane.ok (k : Nat) : Fun Try.prog 16 (laws_toPlane.e k).G := laws_toPlane.ok1 k trivial

noncomputable def impl_inRange.f (k : Nat) (a0 : Int) (a1 : Int) (a2 : Int) : Option Bool :=
  if (decide (a0 ≥ a1)) = true then (some (decide (a0 ≤ a2))) else (some false)
noncomputable def impl_inRange.e (k : Nat) : FE := { α := Int × Int × Int × Unit, β := Bool, args := (lCons (aI .i64) (lCons (aI .i64) (lCons (aI .i64) lNil))), ret := (rOne aB), f := fun p => impl_inRange.f k p.1 p.2.1 p.2.2.1 }
noncomputable def impl_inRange.c (k : Nat) : List (Nat × CE) := []
noncomputable def impl_inRange.bd : Code := match Try.f114.body with | some c => c | none => .skip
noncomputable def impl_inRange.g (k : Nat) : List (Nat × LE) := []
theorem impl_inRange.link (k : Nat) (a0 : Int) (a1 : Int) (a2 : Int) : evFun (mkCx Try.prog (impl_inRange.c k) (impl_inRange.g k) : Cx Bool) Try.f114 ((impl_inRange.e k).args.enc (a0, a1, a2, ())) (impl_inRange.e k).ret.dec = impl_inRange.f k a0 a1 a2 := by kernel_rfl
theorem impl_inRange.ok1 (k : Nat) (hC : AllFun Try.prog (impl_inRange.c k)) : Fun Try.prog 114 (impl_inRange.e k).G := fun_ok mixed (body := impl_inRange.bd) Try.func114 (by kernel_rfl) (by kernel_rfl) (by kernel_rfl) hC (loops_all 0 (by kernel_rfl) fun i hi => absurd hi (Nat.not_lt_zero i)) (impl_inRange.e k) (fun a => Nat.le_of_ble_eq_true (by kernel_rfl)) fun a b h => (impl_inRange.link k a.1 a.2.1 a.2.2.1).trans h
theorem impl_inRange.ok (k : Nat) : Fun Try.prog 114 (impl_inRange.e k).G := impl_inRange.ok1 k trivial

noncomputable def impl_isCoef.f (k : Nat) (a0 : Int) : Option Bool :=
  (impl_inRange.f k  a0 (-500) 500).bind fun t1 => some t1
noncomputable def impl_isCoef.e (k : Nat) : FE := { α := Int × Unit, β := Bool, args := (lCons (aI .i64) lNil), ret := (rOne aB), f := fun p => impl_isCoef.f k p.1 }
noncomputable def impl_isCoef.c (k : Nat) : List (Nat × CE) := [(114, .fn (impl_inRange.e k))]
noncomputable def impl_isCoef.bd : Code := match Try.f101.body with | some c => c | none => .skip
noncomputable def impl_isCoef.g (k : Nat) : List (Nat × LE) := []
theorem impl_isCoef.link (k : Nat) (a0 : Int) : evFun (mkCx Try.prog (impl_isCoef.c k) (impl_isCoef.g k) : Cx Bool) Try.f101 ((impl_isCoef.e k).args.enc (a0, ())) (impl_isCoef.e k).ret.dec = impl_isCoef.f k a0 := by kernel_rfl
theorem impl_isCoef.ok1 (k : Nat) (hC : AllFun Try.prog (impl_isCoef.c k)) : Fun Try.prog 101 (impl_isCoef.e k).G := fun_ok mixed (body := impl_isCoef.bd) Try.func101 (by kernel_rfl) (by kernel_rfl) (by kernel_rfl) hC (loops_all 0 (by kernel_rfl) fun i hi => absurd hi (Nat.not_lt_zero i)) (impl_isCoef.e k) (fun a => Nat.le_of_ble_eq_true (by kernel_rfl)) fun a b h => (impl_isCoef.link k a.1).trans h
theorem impl_isCoef.ok (k : Nat) : Fun Try.prog 101 (impl_isCoef.e k).G := impl_isCoef.ok1 k ⟨impl_inRange.ok k, trivial⟩

noncomputable def impl_divisor.H6 : Hd := ⟨[], [3, 5, 6, 7, 8], []⟩
@[reducible] def impl_divisor.A6 : Type := ((Int × Int × (List Int) × Int × Int × Unit) × (Unit))
noncomputable def impl_divisor.Z6 : SC impl_divisor.A6 := sC impl_divisor.H6 (eCons 3 (tP (aI .i64)) (eCons 5 (tP (aI .i64)) (eCons 6 (tP (aSl (.i .i64))) (eCons 7 (tP (aI .i64)) (eCons 8 (tP (aI .i64)) eNil))))) bNil
@[reducible] def impl_divisor.B6 : Type := ((Int × (List Int) × Int × Int × Unit) × (Unit))
noncomputable def impl_divisor.X6 : XC impl_divisor.B6 := xExit 2 (sC ⟨[], [3, 6, 7, 8], []⟩ (eCons 3 (tP (aI .i64)) (eCons 6 (tP (aSl (.i .i64))) (eCons 7 (tP (aI .i64)) (eCons 8 (tP (aI .i64)) eNil)))) bNil)
noncomputable def impl_divisor.s6 (k : Nat)  (J : Int → Int → (List Int) → Int → Int → Option impl_divisor.B6) (x3 : Int) (x5 : Int) (x6 : List Int) (x7 : Int) (x8 : Int) : Option impl_divisor.B6 :=
  if (x5 != 0) = true then (if x5 = 0 then none else (J x5 (x3.tmod x5) x6 x7 x8)) else (some ((x3, x6, x7, x8, ()), (())))
noncomputable def impl_divisor.l6 (k : Nat)  : Nat → Int → Int → (List Int) → Int → Int → Option impl_divisor.B6
  | 0, _, _, _, _, _ => none
  | n + 1, x3, x5, x6, x7, x8 => impl_divisor.s6 k (impl_divisor.l6 k n) x3 x5 x6 x7 x8
noncomputable def impl_divisor.H3 : Hd := ⟨[], [3, 6, 7, 8], []⟩
@[reducible] def impl_divisor.A3 : Type := ((Int × (List Int) × Int × Int × Unit) × (Unit))
noncomputable def impl_divisor.Z3 : SC impl_divisor.A3 := sC impl_divisor.H3 (eCons 3 (tP (aI .i64)) (eCons 6 (tP (aSl (.i .i64))) (eCons 7 (tP (aI .i64)) (eCons 8 (tP (aI .i64)) eNil)))) bNil
@[reducible] def impl_divisor.B3 : Type := ((Int × Unit) × (Unit))
noncomputable def impl_divisor.X3 : XC impl_divisor.B3 := xExit 0 (sC ⟨[], [3], []⟩ (eCons 3 (tP (aI .i64)) eNil) bNil)
noncomputable def impl_divisor.s3 (k : Nat)  (J : Int → (List Int) → Int → Int → Option impl_divisor.B3) (x3 : Int) (x6 : List Int) (x7 : Int) (x8 : Int) : Option impl_divisor.B3 :=
  if (decide (x8 < x7)) = true then (if 0 ≤ x8 then (if x8 < (x6.length : Int) then ((impl_divisor.l6 k k x3 (if (W (0 - (rd x6 x8))) > (rd x6 x8) then (W (0 - (rd x6 x8))) else (rd x6 x8)) x6 x7 x8).bind fun x1 => J x1.1.1 x1.1.2.1 x1.1.2.2.1 (W (x1.1.2.2.2.1 + 1))) else none) else none) else (some ((x3, ()), (())))
noncomputable def impl_divisor.l3 (k : Nat)  : Nat → Int → (List Int) → Int → Int → Option impl_divisor.B3
  | 0, _, _, _, _ => none
  | n + 1, x3, x6, x7, x8 => impl_divisor.s3 k (impl_divisor.l3 k n) x3 x6 x7 x8
noncomputable def impl_divisor.f (k : Nat) (a0 : List Int) : Option Int :=
  (impl_divisor.l3 k k 0 a0 (a0.length : Int) 0).bind fun x2 => some x2.1.1
noncomputable def impl_divisor.e (k : Nat) : FE := { α := (List Int) × Unit, β := Int, args := (lCons (aSl (.i .i64)) lNil), ret := (rOne (aI .i64)), f := fun p => impl_divisor.f k p.1 }
noncomputable def impl_divisor.c (k : Nat) : List (Nat × CE) := []
noncomputable def impl_divisor.bd : Code := match Try.f102.body with | some c => c | none => .skip
noncomputable def impl_divisor.e6 (k : Nat) : LE := { H := impl_divisor.H6, α := impl_divisor.A6, β := impl_divisor.B6, st := impl_divisor.Z6, xt := impl_divisor.X6, f := fun p => impl_divisor.l6 k k p.1.1 p.1.2.1 p.1.2.2.1 p.1.2.2.2.1 p.1.2.2.2.2.1 }
noncomputable def impl_divisor.e3 (k : Nat) : LE := { H := impl_divisor.H3, α := impl_divisor.A3, β := impl_divisor.B3, st := impl_divisor.Z3, xt := impl_divisor.X3, f := fun p => impl_divisor.l3 k k p.1.1 p.1.2.1 p.1.2.2.1 p.1.2.2.2.1 }
noncomputable def impl_divisor.g (k : Nat) : List (Nat × LE) := [(6, impl_divisor.e6 k), (3, impl_divisor.e3 k)]
theorem impl_divisor.t6 (k : Nat) (I : S2 → Option impl_divisor.B6) (x3 : Int) (x5 : Int) (x6 : List Int) (x7 : Int) (x8 : Int) : stepOf (mkCx Try.prog (impl_divisor.c k) (impl_divisor.g k) : Cx impl_divisor.B6) (loopAt (loopAt impl_divisor.bd 0) 0) impl_divisor.H6 impl_divisor.X6.dec I (impl_divisor.Z6.enc ((x3, x5, x6, x7, x8, ()), (()))) = impl_divisor.s6 k (fun x3 x5 x6 x7 x8 => I (impl_divisor.Z6.enc ((x3, x5, x6, x7, x8, ()), (())))) x3 x5 x6 x7 x8 := by kernel_rfl
theorem impl_divisor.i6 (k : Nat) : ∀ (n : Nat) (x3 : Int) (x5 : Int) (x6 : List Int) (x7 : Int) (x8 : Int), iter (evCode (mkCx Try.prog (impl_divisor.c k) (impl_divisor.g k) : Cx impl_divisor.B6) (loopAt (loopAt impl_divisor.bd 0) 0)) impl_divisor.H6 impl_divisor.X6.dec n (impl_divisor.Z6.enc ((x3, x5, x6, x7, x8, ()), (()))) = impl_divisor.l6 k n x3 x5 x6 x7 x8
  | 0, _, _, _, _, _ => rfl
  | n + 1, x3, x5, x6, x7, x8 => ((iter_step _ _ _ _ n _).trans (impl_divisor.t6 k _ x3 x5 x6 x7 x8)).trans (congrArg (fun J => impl_divisor.s6 k J x3 x5 x6 x7 x8) (funext fun x3 => funext fun x5 => funext fun x6 => funext fun x7 => funext fun x8 => impl_divisor.i6 k n x3 x5 x6 x7 x8))
theorem impl_divisor.t3 (k : Nat) (I : S2 → Option impl_divisor.B3) (x3 : Int) (x6 : List Int) (x7 : Int) (x8 : Int) : stepOf (mkCx Try.prog (impl_divisor.c k) (impl_divisor.g k) : Cx impl_divisor.B3) (loopAt impl_divisor.bd 0) impl_divisor.H3 impl_divisor.X3.dec I (impl_divisor.Z3.enc ((x3, x6, x7, x8, ()), (()))) = impl_divisor.s3 k (fun x3 x6 x7 x8 => I (impl_divisor.Z3.enc ((x3, x6, x7, x8, ()), (())))) x3 x6 x7 x8 := by kernel_rfl
theorem impl_divisor.i3 (k : Nat) : ∀ (n : Nat) (x3 : Int) (x6 : List Int) (x7 : Int) (x8 : Int), iter (evCode (mkCx Try.prog (impl_divisor.c k) (impl_divisor.g k) : Cx impl_divisor.B3) (loopAt impl_divisor.bd 0)) impl_divisor.H3 impl_divisor.X3.dec n (impl_divisor.Z3.enc ((x3, x6, x7, x8, ()), (()))) = impl_divisor.l3 k n x3 x6 x7 x8
  | 0, _, _, _, _ => rfl
  | n + 1, x3, x6, x7, x8 => ((iter_step _ _ _ _ n _).trans (impl_divisor.t3 k _ x3 x6 x7 x8)).trans (congrArg (fun J => impl_divisor.s3 k J x3 x6 x7 x8) (funext fun x3 => funext fun x6 => funext fun x7 => funext fun x8 => impl_divisor.i3 k n x3 x6 x7 x8))
theorem impl_divisor.to6 (k : Nat) (hC : AllFun Try.prog (impl_divisor.c k)) : LoopTo Try.prog 24 (impl_divisor.e6 k) (loopAt (loopAt impl_divisor.bd 0) 0) := loop_to mixed hC (by kernel_rfl) (loops_all 0 (by kernel_rfl) fun i hi => absurd hi (Nat.not_lt_zero i)) fun a b h => ⟨k, (impl_divisor.i6 k k a.1.1 a.1.2.1 a.1.2.2.1 a.1.2.2.2.1 a.1.2.2.2.2.1).trans h⟩
theorem impl_divisor.to3 (k : Nat) (hC : AllFun Try.prog (impl_divisor.c k)) : LoopTo Try.prog 24 (impl_divisor.e3 k) (loopAt impl_divisor.bd 0) := loop_to mixed hC (by kernel_rfl) (loops_all 1 (by kernel_rfl) fun i hi => by obtain rfl : i = 0 := Nat.lt_one_iff.1 hi; exact ⟨impl_divisor.e6 k, by kernel_rfl, impl_divisor.to6 k hC⟩) fun a b h => ⟨k, (impl_divisor.i3 k k a.1.1 a.1.2.1 a.1.2.2.1 a.1.2.2.2.1).trans h⟩
theorem impl_divisor.link (k : Nat) (a0 : List Int) : evFun (mkCx Try.prog (impl_divisor.c k) (impl_divisor.g k) : Cx Int) Try.f102 ((impl_divisor.e k).args.enc (a0, ())) (impl_divisor.e k).ret.dec = impl_divisor.f k a0 := by kernel_rfl
theorem impl_divisor.ok1 (k : Nat) (hC : AllFun Try.prog (impl_divisor.c k)) : Fun Try.prog 102 (impl_divisor.e k).G := fun_ok mixed (body := impl_divisor.bd) Try.func102 (by kernel_rfl) (by kernel_rfl) (by kernel_rfl) hC (loops_all 1 (by kernel_rfl) fun i hi => by obtain rfl : i = 0 := Nat.lt_one_iff.1 hi; exact ⟨impl_divisor.e3 k, by kernel_rfl, impl_divisor.to3 k hC⟩) (impl_divisor.e k) (fun a => Nat.le_of_ble_eq_true (by kernel_rfl)) fun a b h => (impl_divisor.link k a.1).trans h
theorem impl_divisor.ok (k : Nat) : Fun Try.prog 102 (impl_divisor.e k).G := impl_divisor.ok1 k trivial

noncomputable def impl_PlaneOk.f (k : Nat) (a0 : S4) : Option Bool :=
  (impl_isCoef.f k  a0.a).bind fun t1 => if (!t1) = true then (some false) else ((impl_isCoef.f k  a0.b).bind fun t2 => if (!t2) = true then (some false) else ((impl_isCoef.f k  a0.c).bind fun t3 => if (!t3) = true then (some false) else ((impl_isCoef.f k  a0.d).bind fun t4 => if (!t4) = true then (some false) else (if (a0.a != 0) = true then ((impl_divisor.f k  ([a0.a, a0.b, a0.c, a0.d] : List Int)).bind fun t5 => some (t5 == 1)) else (if (a0.b != 0) = true then ((impl_divisor.f k  ([a0.a, a0.b, a0.c, a0.d] : List Int)).bind fun t6 => some (t6 == 1)) else (if (a0.c != 0) = true then ((impl_divisor.f k  ([a0.a, a0.b, a0.c, a0.d] : List Int)).bind fun t7 => some (t7 == 1)) else (some false)))))))
noncomputable def impl_PlaneOk.e (k : Nat) : FE := { α := S4 × Unit, β := Bool, args := (lCons aS4 lNil), ret := (rOne aB), f := fun p => impl_PlaneOk.f k p.1 }
noncomputable def impl_PlaneOk.c (k : Nat) : List (Nat × CE) := [(101, .fn (impl_isCoef.e k)), (102, .fn (impl_divisor.e k))]
noncomputable def impl_PlaneOk.bd : Code := match Try.f60.body with | some c => c | none => .skip
noncomputable def impl_PlaneOk.g (k : Nat) : List (Nat × LE) := []
theorem impl_PlaneOk.link (k : Nat) (a0 : S4) : evFun (mkCx Try.prog (impl_PlaneOk.c k) (impl_PlaneOk.g k) : Cx Bool) Try.f60 ((impl_PlaneOk.e k).args.enc (a0, ())) (impl_PlaneOk.e k).ret.dec = impl_PlaneOk.f k a0 := by kernel_rfl
theorem impl_PlaneOk.ok1 (k : Nat) (hC : AllFun Try.prog (impl_PlaneOk.c k)) : Fun Try.prog 60 (impl_PlaneOk.e k).G := fun_ok mixed (body := impl_PlaneOk.bd) Try.func60 (by kernel_rfl) (by kernel_rfl) (by kernel_rfl) hC (loops_all 0 (by kernel_rfl) fun i hi => absurd hi (Nat.not_lt_zero i)) (impl_PlaneOk.e k) (fun a => Nat.le_of_ble_eq_true (by kernel_rfl)) fun a b h => (impl_PlaneOk.link k a.1).trans h
theorem impl_PlaneOk.ok (k : Nat) : Fun Try.prog 60 (impl_PlaneOk.e k).G := impl_PlaneOk.ok1 k ⟨impl_isCoef.ok k, impl_divisor.ok k, trivial⟩

noncomputable def impl_node.f (k : Nat) (a0 : S4) (a1 : Tree) (a2 : Tree) : Option Tree :=
  some (Tree.mk false a0 ([(T1 a1), (T1 a2)] : List Tree))
noncomputable def impl_node.e (k : Nat) : FE := { α := S4 × Tree × Tree × Unit, β := Tree, args := (lCons aS4 (lCons aTree (lCons aTree lNil))), ret := (rOne aTree), f := fun p => impl_node.f k p.1 p.2.1 p.2.2.1 }
noncomputable def impl_node.c (k : Nat) : List (Nat × CE) := []
noncomputable def impl_node.bd : Code := match Try.f61.body with | some c => c | none => .skip
noncomputable def impl_node.g (k : Nat) : List (Nat × LE) := []
theorem impl_node.link (k : Nat) (a0 : S4) (a1 : Tree) (a2 : Tree) : evFun (mkCx Try.prog (impl_node.c k) (impl_node.g k) : Cx Tree) Try.f61 ((impl_node.e k).args.enc (a0, a1, a2, ())) (impl_node.e k).ret.dec = impl_node.f k a0 a1 a2 := by kernel_rfl
theorem impl_node.ok1 (k : Nat) (hC : AllFun Try.prog (impl_node.c k)) : Fun Try.prog 61 (impl_node.e k).G := fun_ok mixed (body := impl_node.bd) Try.func61 (by kernel_rfl) (by kernel_rfl) (by kernel_rfl) hC (loops_all 0 (by kernel_rfl) fun i hi => absurd hi (Nat.not_lt_zero i)) (impl_node.e k) (fun a => Nat.le_of_ble_eq_true (by kernel_rfl)) fun a b h => (impl_node.link k a.1 a.2.1 a.2.2.1).trans h
theorem impl_node.ok (k : Nat) : Fun Try.prog 61 (impl_node.e k).G := impl_node.ok1 k trivial

noncomputable def impl_Leaf.f (k : Nat) (a0 : Bool) : Option Tree :=
  some (Tree.mk a0 ⟨0, 0, 0, 0⟩ ([] : List Tree))
noncomputable def impl_Leaf.e (k : Nat) : FE := { α := Bool × Unit, β := Tree, args := (lCons aB lNil), ret := (rOne aTree), f := fun p => impl_Leaf.f k p.1 }
noncomputable def impl_Leaf.c (k : Nat) : List (Nat × CE) := []
noncomputable def impl_Leaf.bd : Code := match Try.f62.body with | some c => c | none => .skip
noncomputable def impl_Leaf.g (k : Nat) : List (Nat × LE) := []
theorem impl_Leaf.link (k : Nat) (a0 : Bool) : evFun (mkCx Try.prog (impl_Leaf.c k) (impl_Leaf.g k) : Cx Tree) Try.f62 ((impl_Leaf.e k).args.enc (a0, ())) (impl_Leaf.e k).ret.dec = impl_Leaf.f k a0 := by kernel_rfl
theorem impl_Leaf.ok1 (k : Nat) (hC : AllFun Try.prog (impl_Leaf.c k)) : Fun Try.prog 62 (impl_Leaf.e k).G := fun_ok mixed (body := impl_Leaf.bd) Try.func62 (by kernel_rfl) (by kernel_rfl) (by kernel_rfl) hC (loops_all 0 (by kernel_rfl) fun i hi => absurd hi (Nat.not_lt_zero i)) (impl_Leaf.e k) (fun a => Nat.le_of_ble_eq_true (by kernel_rfl)) fun a b h => (impl_Leaf.link k a.1).trans h
theorem impl_Leaf.ok (k : Nat) : Fun Try.prog 62 (impl_Leaf.e k).G := impl_Leaf.ok1 k trivial

noncomputable def impl_HalfOf.f (k : Nat) (a0 : S4) : Option (Tree × Bool × Unit) :=
  (impl_PlaneOk.f k  a0).bind fun t1 => if (!t1) = true then (some ((Tree.mk false ⟨0, 0, 0, 0⟩ ([] : List Tree)), false, ())) else ((impl_Leaf.f k  true).bind fun t2 => (impl_Leaf.f k  false).bind fun t3 => (impl_node.f k  a0 (T1 t2) (T1 t3)).bind fun t4 => some ((T1 t4), true, ()))
noncomputable def impl_HalfOf.e (k : Nat) : FE := { α := S4 × Unit, β := (Tree × Bool × Unit), args := (lCons aS4 lNil), ret := (rMany (lCons aTree (lCons aB lNil))), f := fun p => impl_HalfOf.f k p.1 }
noncomputable def impl_HalfOf.c (k : Nat) : List (Nat × CE) := [(60, .fn (impl_PlaneOk.e k)), (62, .fn (impl_Leaf.e k)), (61, .fn (impl_node.e k))]
noncomputable def impl_HalfOf.bd : Code := match Try.f17.body with | some c => c | none => .skip
noncomputable def impl_HalfOf.g (k : Nat) : List (Nat × LE) := []
theorem impl_HalfOf.link (k : Nat) (a0 : S4) : evFun (mkCx Try.prog (impl_HalfOf.c k) (impl_HalfOf.g k) : Cx (Tree × Bool × Unit)) Try.f17 ((impl_HalfOf.e k).args.enc (a0, ())) (impl_HalfOf.e k).ret.dec = impl_HalfOf.f k a0 := by kernel_rfl
theorem impl_HalfOf.ok1 (k : Nat) (hC : AllFun Try.prog (impl_HalfOf.c k)) : Fun Try.prog 17 (impl_HalfOf.e k).G := fun_ok mixed (body := impl_HalfOf.bd) Try.func17 (by kernel_rfl) (by kernel_rfl) (by kernel_rfl) hC (loops_all 0 (by kernel_rfl) fun i hi => absurd hi (Nat.not_lt_zero i)) (impl_HalfOf.e k) (fun a => Nat.le_of_ble_eq_true (by kernel_rfl)) fun a b h => (impl_HalfOf.link k a.1).trans h
theorem impl_HalfOf.ok (k : Nat) : Fun Try.prog 17 (impl_HalfOf.e k).G := impl_HalfOf.ok1 k ⟨impl_PlaneOk.ok k, impl_Leaf.ok k, impl_node.ok k, trivial⟩

noncomputable def laws_eqPlane.f (k : Nat) (a0 : S4) (a1 : S4) : Option Bool :=
  if (a0.a != a1.a) = true then (some false) else (if (a0.b != a1.b) = true then (some false) else (if (a0.c != a1.c) = true then (some false) else (if (a0.d != a1.d) = true then (some false) else (some true))))
noncomputable def laws_eqPlane.e (k : Nat) : FE := { α := S4 × S4 × Unit, β := Bool, args := (lCons aS4 (lCons aS4 lNil)), ret := (rOne aB), f := fun p => laws_eqPlane.f k p.1 p.2.1 }
noncomputable def laws_eqPlane.c (k : Nat) : List (Nat × CE) := []
noncomputable def laws_eqPlane.bd : Code := match Try.f63.body with | some c => c | none => .skip
noncomputable def laws_eqPlane.g (k : Nat) : List (Nat × LE) := []
theorem laws_eqPlane.link (k : Nat) (a0 : S4) (a1 : S4) : evFun (mkCx Try.prog (laws_eqPlane.c k) (laws_eqPlane.g k) : Cx Bool) Try.f63 ((laws_eqPlane.e k).args.enc (a0, a1, ())) (laws_eqPlane.e k).ret.dec = laws_eqPlane.f k a0 a1 := by kernel_rfl
theorem laws_eqPlane.ok1 (k : Nat) (hC : AllFun Try.prog (laws_eqPlane.c k)) : Fun Try.prog 63 (laws_eqPlane.e k).G := fun_ok mixed (body := laws_eqPlane.bd) Try.func63 (by kernel_rfl) (by kernel_rfl) (by kernel_rfl) hC (loops_all 0 (by kernel_rfl) fun i hi => absurd hi (Nat.not_lt_zero i)) (laws_eqPlane.e k) (fun a => Nat.le_of_ble_eq_true (by kernel_rfl)) fun a b h => (laws_eqPlane.link k a.1 a.2.1).trans h
theorem laws_eqPlane.ok (k : Nat) : Fun Try.prog 63 (laws_eqPlane.e k).G := laws_eqPlane.ok1 k trivial

noncomputable def laws_eqSolidS.H4 : Hd := ⟨[], [0, 1, 5], []⟩
@[reducible] def laws_eqSolidS.A4 : Type := (((List Tree) × (List Tree) × Int × Unit) × (Unit))
noncomputable def laws_eqSolidS.Z4 : SC laws_eqSolidS.A4 := sC laws_eqSolidS.H4 (eCons 0 (tP (aSl .tree)) (eCons 1 (tP (aSl .tree)) (eCons 5 (tP (aI .i64)) eNil))) bNil
@[reducible] def laws_eqSolidS.B4 : Type := ((Bool × Unit) × (Unit)) ⊕ ((Unit) × (Unit))
noncomputable def laws_eqSolidS.X4 : XC laws_eqSolidS.B4 := xOr (xRet (sC ⟨[], [4], []⟩ (eCons 4 (tP aB) eNil) bNil)) (xExit 0 (sC ⟨[], [], []⟩ eNil bNil))
noncomputable def laws_eqSolidS.s4 (k : Nat) (self18 : Tree → Tree → Option Bool) (self64 : (List Tree) → (List Tree) → Option Bool) (J : (List Tree) → (List Tree) → Int → Option laws_eqSolidS.B4) (x0 : List Tree) (x1 : List Tree) (x5 : Int) : Option laws_eqSolidS.B4 :=
  if (decide (x5 < (x0.length : Int))) = true then (if 0 ≤ x5 then (if x5 < (x0.length : Int) then (if 0 ≤ x5 then (if x5 < (x1.length : Int) then ((self18  (T1 (rd x0 x5)) (T1 (rd x1 x5))).bind fun t1 => if (!t1) = true then (some (.inl ((false, ()), (())))) else (J x0 x1 (W (x5 + 1)))) else none) else none) else none) else none) else (some (.inr ((()), (()))))
noncomputable def laws_eqSolidS.l4 (k : Nat) (self18 : Tree → Tree → Option Bool) (self64 : (List Tree) → (List Tree) → Option Bool) : Nat → (List Tree) → (List Tree) → Int → Option laws_eqSolidS.B4
  | 0, _, _, _ => none
  | n + 1, x0, x1, x5 => laws_eqSolidS.s4 k self18 self64 (laws_eqSolidS.l4 k self18 self64 n) x0 x1 x5
noncomputable def laws_eqSolidS.fs (k : Nat) (self18 : Tree → Tree → Option Bool) (self64 : (List Tree) → (List Tree) → Option Bool) (a0 : List Tree) (a1 : List Tree) : Option Bool :=
  if ((a0.length : Int) != (a1.length : Int)) = true then (some false) else ((laws_eqSolidS.l4 k self18 self64 k a0 a1 0).bind fun | .inl r2 => (some r2.1.1) | .inr x3 => (some true))
noncomputable def laws_eqSolid.fs (k : Nat) (self18 : Tree → Tree → Option Bool) (self64 : (List Tree) → (List Tree) → Option Bool) (a0 : Tree) (a1 : Tree) : Option Bool :=
  if (!(a0.inn == a1.inn)) = true then (some false) else ((laws_eqPlane.f k  a0.p a1.p).bind fun t1 => if (!t1) = true then (some false) else ((self64  a0.kids a1.kids).bind fun t2 => if (!t2) = true then (some false) else (some true)))
mutual
noncomputable def laws_eqSolidS.f : Nat → (List Tree) → (List Tree) → Option Bool
  | 0, _, _ => none
  | k + 1, a0, a1 => laws_eqSolidS.fs k (laws_eqSolid.f k) (laws_eqSolidS.f k) a0 a1
noncomputable def laws_eqSolid.f : Nat → Tree → Tree → Option Bool
  | 0, _, _ => none
  | k + 1, a0, a1 => laws_eqSolid.fs k (laws_eqSolid.f k) (laws_eqSolidS.f k) a0 a1
end
theorem laws_eqSolidS.fS (k : Nat) (a0 : List Tree) (a1 : List Tree) : laws_eqSolidS.f (k + 1) a0 a1 = laws_eqSolidS.fs k (laws_eqSolid.f k) (laws_eqSolidS.f k) a0 a1 := by first | rfl | rw [laws_eqSolidS.f]
theorem laws_eqSolid.fS (k : Nat) (a0 : Tree) (a1 : Tree) : laws_eqSolid.f (k + 1) a0 a1 = laws_eqSolid.fs k (laws_eqSolid.f k) (laws_eqSolidS.f k) a0 a1 := by first | rfl | rw [laws_eqSolid.f]
noncomputable def laws_eqSolidS.e (k : Nat) : FE := { α := (List Tree) × (List Tree) × Unit, β := Bool, args := (lCons (aSl .tree) (lCons (aSl .tree) lNil)), ret := (rOne aB), f := fun p => laws_eqSolidS.f k p.1 p.2.1 }
noncomputable def laws_eqSolid.e (k : Nat) : FE := { α := Tree × Tree × Unit, β := Bool, args := (lCons aTree (lCons aTree lNil)), ret := (rOne aB), f := fun p => laws_eqSolid.f k p.1 p.2.1 }
noncomputable def laws_eqSolidS.c (k : Nat) : List (Nat × CE) := [(18, .fn (laws_eqSolid.e k))]
noncomputable def laws_eqSolidS.bd : Code := match Try.f64.body with | some c => c | none => .skip
noncomputable def laws_eqSolidS.e4 (k : Nat) : LE := { H := laws_eqSolidS.H4, α := laws_eqSolidS.A4, β := laws_eqSolidS.B4, st := laws_eqSolidS.Z4, xt := laws_eqSolidS.X4, f := fun p => laws_eqSolidS.l4 k (laws_eqSolid.f k) (laws_eqSolidS.f k) k p.1.1 p.1.2.1 p.1.2.2.1 }
noncomputable def laws_eqSolidS.g (k : Nat) : List (Nat × LE) := [(4, laws_eqSolidS.e4 k)]
theorem laws_eqSolidS.t4 (k : Nat) (I : S2 → Option laws_eqSolidS.B4) (x0 : List Tree) (x1 : List Tree) (x5 : Int) : stepOf (mkCx Try.prog (laws_eqSolidS.c k) (laws_eqSolidS.g k) : Cx laws_eqSolidS.B4) (loopAt laws_eqSolidS.bd 0) laws_eqSolidS.H4 laws_eqSolidS.X4.dec I (laws_eqSolidS.Z4.enc ((x0, x1, x5, ()), (()))) = laws_eqSolidS.s4 k (laws_eqSolid.f k) (laws_eqSolidS.f k) (fun x0 x1 x5 => I (laws_eqSolidS.Z4.enc ((x0, x1, x5, ()), (())))) x0 x1 x5 := by kernel_rfl
theorem laws_eqSolidS.i4 (k : Nat) : ∀ (n : Nat) (x0 : List Tree) (x1 : List Tree) (x5 : Int), iter (evCode (mkCx Try.prog (laws_eqSolidS.c k) (laws_eqSolidS.g k) : Cx laws_eqSolidS.B4) (loopAt laws_eqSolidS.bd 0)) laws_eqSolidS.H4 laws_eqSolidS.X4.dec n (laws_eqSolidS.Z4.enc ((x0, x1, x5, ()), (()))) = laws_eqSolidS.l4 k (laws_eqSolid.f k) (laws_eqSolidS.f k) n x0 x1 x5
  | 0, _, _, _ => rfl
  | n + 1, x0, x1, x5 => ((iter_step _ _ _ _ n _).trans (laws_eqSolidS.t4 k _ x0 x1 x5)).trans (congrArg (fun J => laws_eqSolidS.s4 k (laws_eqSolid.f k) (laws_eqSolidS.f k) J x0 x1 x5) (funext fun x0 => funext fun x1 => funext fun x5 => laws_eqSolidS.i4 k n x0 x1 x5))
theorem laws_eqSolidS.to4 (k : Nat) (hC : AllFun Try.prog (laws_eqSolidS.c k)) : LoopTo Try.prog 27 (laws_eqSolidS.e4 k) (loopAt laws_eqSolidS.bd 0) := loop_to mixed hC (by kernel_rfl) (loops_all 0 (by kernel_rfl) fun i hi => absurd hi (Nat.not_lt_zero i)) fun a b h => ⟨k, (laws_eqSolidS.i4 k k a.1.1 a.1.2.1 a.1.2.2.1).trans h⟩
theorem laws_eqSolidS.link (k : Nat) (a0 : List Tree) (a1 : List Tree) : evFun (mkCx Try.prog (laws_eqSolidS.c k) (laws_eqSolidS.g k) : Cx Bool) Try.f64 ((laws_eqSolidS.e (k + 1)).args.enc (a0, a1, ())) (laws_eqSolidS.e (k + 1)).ret.dec = laws_eqSolidS.fs k (laws_eqSolid.f k) (laws_eqSolidS.f k) a0 a1 := by kernel_rfl
theorem laws_eqSolidS.ok1 (k : Nat) (hC : AllFun Try.prog (laws_eqSolidS.c k)) : Fun Try.prog 64 (laws_eqSolidS.e (k + 1)).G := fun_ok mixed (body := laws_eqSolidS.bd) Try.func64 (by kernel_rfl) (by kernel_rfl) (by kernel_rfl) hC (loops_all 1 (by kernel_rfl) fun i hi => by obtain rfl : i = 0 := Nat.lt_one_iff.1 hi; exact ⟨laws_eqSolidS.e4 k, by kernel_rfl, laws_eqSolidS.to4 k hC⟩) (laws_eqSolidS.e (k + 1)) (fun a => Nat.le_of_ble_eq_true (by kernel_rfl)) fun a b h => (laws_eqSolidS.link k a.1 a.2.1).trans ((laws_eqSolidS.fS k a.1 a.2.1).symm.trans h)
noncomputable def laws_eqSolid.c (k : Nat) : List (Nat × CE) := [(63, .fn (laws_eqPlane.e k)), (64, .fn (laws_eqSolidS.e k))]
noncomputable def laws_eqSolid.bd : Code := match Try.f18.body with | some c => c | none => .skip
noncomputable def laws_eqSolid.g (k : Nat) : List (Nat × LE) := []
theorem laws_eqSolid.link (k : Nat) (a0 : Tree) (a1 : Tree) : evFun (mkCx Try.prog (laws_eqSolid.c k) (laws_eqSolid.g k) : Cx Bool) Try.f18 ((laws_eqSolid.e (k + 1)).args.enc (a0, a1, ())) (laws_eqSolid.e (k + 1)).ret.dec = laws_eqSolid.fs k (laws_eqSolid.f k) (laws_eqSolidS.f k) a0 a1 := by kernel_rfl
theorem laws_eqSolid.ok1 (k : Nat) (hC : AllFun Try.prog (laws_eqSolid.c k)) : Fun Try.prog 18 (laws_eqSolid.e (k + 1)).G := fun_ok mixed (body := laws_eqSolid.bd) Try.func18 (by kernel_rfl) (by kernel_rfl) (by kernel_rfl) hC (loops_all 0 (by kernel_rfl) fun i hi => absurd hi (Nat.not_lt_zero i)) (laws_eqSolid.e (k + 1)) (fun a => Nat.le_of_ble_eq_true (by kernel_rfl)) fun a b h => (laws_eqSolid.link k a.1 a.2.1).trans ((laws_eqSolid.fS k a.1 a.2.1).symm.trans h)
theorem laws_eqSolidS.okk : ∀ k, Fun Try.prog 64 (laws_eqSolidS.e k).G ∧ Fun Try.prog 18 (laws_eqSolid.e k).G
  | 0 => ⟨fun_zero (by kernel_rfl) fun _ => rfl, fun_zero (by kernel_rfl) fun _ => rfl⟩
  | k + 1 => have h := laws_eqSolidS.okk k; ⟨laws_eqSolidS.ok1 k ⟨h.2, trivial⟩, laws_eqSolid.ok1 k ⟨laws_eqPlane.ok k, h.1, trivial⟩⟩
theorem laws_eqSolidS.ok (k : Nat) : Fun Try.prog 64 (laws_eqSolidS.e k).G := (laws_eqSolidS.okk k).1
theorem laws_eqSolid.ok (k : Nat) : Fun Try.prog 18 (laws_eqSolid.e k).G := (laws_eqSolidS.okk k).2

noncomputable def laws_heldSolidS.H2 : Hd := ⟨[], [0, 1, 5], []⟩
@[reducible] def laws_heldSolidS.A2 : Type := (((List Tree) × Int × Int × Unit) × (Unit))
noncomputable def laws_heldSolidS.Z2 : SC laws_heldSolidS.A2 := sC laws_heldSolidS.H2 (eCons 0 (tP (aSl .tree)) (eCons 1 (tP (aI .i64)) (eCons 5 (tP (aI .i64)) eNil))) bNil
@[reducible] def laws_heldSolidS.B2 : Type := ((Int × Unit) × (Unit)) ⊕ ((Int × Unit) × (Unit))
noncomputable def laws_heldSolidS.X2 : XC laws_heldSolidS.B2 := xOr (xRet (sC ⟨[], [4], []⟩ (eCons 4 (tP (aI .i64)) eNil) bNil)) (xExit 0 (sC ⟨[], [1], []⟩ (eCons 1 (tP (aI .i64)) eNil) bNil))
noncomputable def laws_heldSolidS.s2 (k : Nat) (self66 : (List Tree) → Int → Option Int) (J : (List Tree) → Int → Int → Option laws_heldSolidS.B2) (x0 : List Tree) (x1 : Int) (x5 : Int) : Option laws_heldSolidS.B2 :=
  if (decide (x5 < (x0.length : Int))) = true then (if 0 ≤ x5 then (if x5 < (x0.length : Int) then (if 3 = 0 then none else (if (!((rd x0 x5).inn == ((x1.tmod 3) == 0))) = true then (some (.inl (((-1), ()), (())))) else (if 0 ≤ x5 then (if x5 < (x0.length : Int) then (if ((rd x0 x5).p.a != (W (x1 + 1))) = true then (some (.inl (((-1), ()), (())))) else (if 0 ≤ x5 then (if x5 < (x0.length : Int) then (if ((rd x0 x5).p.b != (W ((W (x1 + 1)) + 1))) = true then (some (.inl (((-1), ()), (())))) else (if 0 ≤ x5 then (if x5 < (x0.length : Int) then (if ((rd x0 x5).p.c != (W ((W ((W (x1 + 1)) + 1)) + 1))) = true then (some (.inl (((-1), ()), (())))) else (if 0 ≤ x5 then (if x5 < (x0.length : Int) then (if ((rd x0 x5).p.d != (W ((W ((W ((W (x1 + 1)) + 1)) + 1)) + 1))) = true then (some (.inl (((-1), ()), (())))) else (if 0 ≤ x5 then (if x5 < (x0.length : Int) then ((self66  ((rd x0 x5).kids) (W ((W ((W ((W ((W (x1 + 1)) + 1)) + 1)) + 1)) + 1))).bind fun t1 => if (decide (t1 < 0)) = true then (some (.inl (((-1), ()), (())))) else (J x0 t1 (W (x5 + 1)))) else none) else none)) else none) else none)) else none) else none)) else none) else none)) else none) else none))) else none) else none) else (some (.inr ((x1, ()), (()))))
noncomputable def laws_heldSolidS.l2 (k : Nat) (self66 : (List Tree) → Int → Option Int) : Nat → (List Tree) → Int → Int → Option laws_heldSolidS.B2
  | 0, _, _, _ => none
  | n + 1, x0, x1, x5 => laws_heldSolidS.s2 k self66 (laws_heldSolidS.l2 k self66 n) x0 x1 x5
noncomputable def laws_heldSolidS.fs (k : Nat) (self66 : (List Tree) → Int → Option Int) (a0 : List Tree) (a1 : Int) : Option Int :=
  (laws_heldSolidS.l2 k self66 k a0 a1 0).bind fun | .inl r2 => (some r2.1.1) | .inr x3 => (some x3.1.1)
noncomputable def laws_heldSolidS.f : Nat → (List Tree) → Int → Option Int
  | 0, _, _ => none
  | k + 1, a0, a1 => laws_heldSolidS.fs k (laws_heldSolidS.f k) a0 a1
theorem laws_heldSolidS.fS (k : Nat) (a0 : List Tree) (a1 : Int) : laws_heldSolidS.f (k + 1) a0 a1 = laws_heldSolidS.fs k (laws_heldSolidS.f k) a0 a1 := by first | rfl | rw [laws_heldSolidS.f]
noncomputable def laws_heldSolidS.e (k : Nat) : FE := { α := (List Tree) × Int × Unit, β := Int, args := (lCons (aSl .tree) (lCons (aI .i64) lNil)), ret := (rOne (aI .i64)), f := fun p => laws_heldSolidS.f k p.1 p.2.1 }
noncomputable def laws_heldSolidS.c (k : Nat) : List (Nat × CE) := [(66, .fn (laws_heldSolidS.e k))]
noncomputable def laws_heldSolidS.bd : Code := match Try.f66.body with | some c => c | none => .skip
noncomputable def laws_heldSolidS.e2 (k : Nat) : LE := { H := laws_heldSolidS.H2, α := laws_heldSolidS.A2, β := laws_heldSolidS.B2, st := laws_heldSolidS.Z2, xt := laws_heldSolidS.X2, f := fun p => laws_heldSolidS.l2 k (laws_heldSolidS.f k) k p.1.1 p.1.2.1 p.1.2.2.1 }
noncomputable def laws_heldSolidS.g (k : Nat) : List (Nat × LE) := [(2, laws_heldSolidS.e2 k)]
theorem laws_heldSolidS.t2 (k : Nat) (I : S2 → Option laws_heldSolidS.B2) (x0 : List Tree) (x1 : Int) (x5 : Int) : stepOf (mkCx Try.prog (laws_heldSolidS.c k) (laws_heldSolidS.g k) : Cx laws_heldSolidS.B2) (loopAt laws_heldSolidS.bd 0) laws_heldSolidS.H2 laws_heldSolidS.X2.dec I (laws_heldSolidS.Z2.enc ((x0, x1, x5, ()), (()))) = laws_heldSolidS.s2 k (laws_heldSolidS.f k) (fun x0 x1 x5 => I (laws_heldSolidS.Z2.enc ((x0, x1, x5, ()), (())))) x0 x1 x5 := by kernel_rfl
theorem laws_heldSolidS.i2 (k : Nat) : ∀ (n : Nat) (x0 : List Tree) (x1 : Int) (x5 : Int), iter (evCode (mkCx Try.prog (laws_heldSolidS.c k) (laws_heldSolidS.g k) : Cx laws_heldSolidS.B2) (loopAt laws_heldSolidS.bd 0)) laws_heldSolidS.H2 laws_heldSolidS.X2.dec n (laws_heldSolidS.Z2.enc ((x0, x1, x5, ()), (()))) = laws_heldSolidS.l2 k (laws_heldSolidS.f k) n x0 x1 x5
  | 0, _, _, _ => rfl
  | n + 1, x0, x1, x5 => ((iter_step _ _ _ _ n _).trans (laws_heldSolidS.t2 k _ x0 x1 x5)).trans (congrArg (fun J => laws_heldSolidS.s2 k (laws_heldSolidS.f k) J x0 x1 x5) (funext fun x0 => funext fun x1 => funext fun x5 => laws_heldSolidS.i2 k n x0 x1 x5))
theorem laws_heldSolidS.to2 (k : Nat) (hC : AllFun Try.prog (laws_heldSolidS.c k)) : LoopTo Try.prog 73 (laws_heldSolidS.e2 k) (loopAt laws_heldSolidS.bd 0) := loop_to mixed hC (by kernel_rfl) (loops_all 0 (by kernel_rfl) fun i hi => absurd hi (Nat.not_lt_zero i)) fun a b h => ⟨k, (laws_heldSolidS.i2 k k a.1.1 a.1.2.1 a.1.2.2.1).trans h⟩
theorem laws_heldSolidS.link (k : Nat) (a0 : List Tree) (a1 : Int) : evFun (mkCx Try.prog (laws_heldSolidS.c k) (laws_heldSolidS.g k) : Cx Int) Try.f66 ((laws_heldSolidS.e (k + 1)).args.enc (a0, a1, ())) (laws_heldSolidS.e (k + 1)).ret.dec = laws_heldSolidS.fs k (laws_heldSolidS.f k) a0 a1 := by kernel_rfl
theorem laws_heldSolidS.ok1 (k : Nat) (hC : AllFun Try.prog (laws_heldSolidS.c k)) : Fun Try.prog 66 (laws_heldSolidS.e (k + 1)).G := fun_ok mixed (body := laws_heldSolidS.bd) Try.func66 (by kernel_rfl) (by kernel_rfl) (by kernel_rfl) hC (loops_all 1 (by kernel_rfl) fun i hi => by obtain rfl : i = 0 := Nat.lt_one_iff.1 hi; exact ⟨laws_heldSolidS.e2 k, by kernel_rfl, laws_heldSolidS.to2 k hC⟩) (laws_heldSolidS.e (k + 1)) (fun a => Nat.le_of_ble_eq_true (by kernel_rfl)) fun a b h => (laws_heldSolidS.link k a.1 a.2.1).trans ((laws_heldSolidS.fS k a.1 a.2.1).symm.trans h)
theorem laws_heldSolidS.ok : ∀ k, Fun Try.prog 66 (laws_heldSolidS.e k).G
  | 0 => fun_zero (by kernel_rfl) fun _ => rfl
  | k + 1 => laws_heldSolidS.ok1 k ⟨laws_heldSolidS.ok k, trivial⟩

noncomputable def laws_heldSolid.f (k : Nat) (a0 : Tree) (a1 : Int) : Option Int :=
  (laws_heldSolidS.f k  a0.kids a1).bind fun t1 => if (decide (t1 < 0)) = true then (some (-1)) else (some t1)
noncomputable def laws_heldSolid.e (k : Nat) : FE := { α := Tree × Int × Unit, β := Int, args := (lCons aTree (lCons (aI .i64) lNil)), ret := (rOne (aI .i64)), f := fun p => laws_heldSolid.f k p.1 p.2.1 }
noncomputable def laws_heldSolid.c (k : Nat) : List (Nat × CE) := [(66, .fn (laws_heldSolidS.e k))]
noncomputable def laws_heldSolid.bd : Code := match Try.f20.body with | some c => c | none => .skip
noncomputable def laws_heldSolid.g (k : Nat) : List (Nat × LE) := []
theorem laws_heldSolid.link (k : Nat) (a0 : Tree) (a1 : Int) : evFun (mkCx Try.prog (laws_heldSolid.c k) (laws_heldSolid.g k) : Cx Int) Try.f20 ((laws_heldSolid.e k).args.enc (a0, a1, ())) (laws_heldSolid.e k).ret.dec = laws_heldSolid.f k a0 a1 := by kernel_rfl
theorem laws_heldSolid.ok1 (k : Nat) (hC : AllFun Try.prog (laws_heldSolid.c k)) : Fun Try.prog 20 (laws_heldSolid.e k).G := fun_ok mixed (body := laws_heldSolid.bd) Try.func20 (by kernel_rfl) (by kernel_rfl) (by kernel_rfl) hC (loops_all 0 (by kernel_rfl) fun i hi => absurd hi (Nat.not_lt_zero i)) (laws_heldSolid.e k) (fun a => Nat.le_of_ble_eq_true (by kernel_rfl)) fun a b h => (laws_heldSolid.link k a.1 a.2.1).trans h
theorem laws_heldSolid.ok (k : Nat) : Fun Try.prog 20 (laws_heldSolid.e k).G := laws_heldSolid.ok1 k ⟨laws_heldSolidS.ok k, trivial⟩

noncomputable def laws_szSolidS.H5 : Hd := ⟨[], [0, 1, 5], []⟩
@[reducible] def laws_szSolidS.A5 : Type := (((List Tree) × Int × Int × Unit) × (Unit))
noncomputable def laws_szSolidS.Z5 : SC laws_szSolidS.A5 := sC laws_szSolidS.H5 (eCons 0 (tP (aSl .tree)) (eCons 1 (tP (aI .i64)) (eCons 5 (tP (aI .i64)) eNil))) bNil
@[reducible] def laws_szSolidS.B5 : Type := ((Int × Unit) × (Unit)) ⊕ ((Int × Unit) × (Unit))
noncomputable def laws_szSolidS.X5 : XC laws_szSolidS.B5 := xOr (xRet (sC ⟨[], [4], []⟩ (eCons 4 (tP (aI .i64)) eNil) bNil)) (xExit 0 (sC ⟨[], [1], []⟩ (eCons 1 (tP (aI .i64)) eNil) bNil))
noncomputable def laws_szSolidS.s5 (k : Nat) (self21 : Tree → Int → Option Int) (self67 : (List Tree) → Int → Option Int) (J : (List Tree) → Int → Int → Option laws_szSolidS.B5) (x0 : List Tree) (x1 : Int) (x5 : Int) : Option laws_szSolidS.B5 :=
  if (decide (x5 < (x0.length : Int))) = true then (if 0 ≤ x5 then (if x5 < (x0.length : Int) then ((self21  (T1 (rd x0 x5)) x1).bind fun t1 => if (decide (t1 < 0)) = true then (some (.inl (((-1), ()), (())))) else (J x0 t1 (W (x5 + 1)))) else none) else none) else (some (.inr ((x1, ()), (()))))
noncomputable def laws_szSolidS.l5 (k : Nat) (self21 : Tree → Int → Option Int) (self67 : (List Tree) → Int → Option Int) : Nat → (List Tree) → Int → Int → Option laws_szSolidS.B5
  | 0, _, _, _ => none
  | n + 1, x0, x1, x5 => laws_szSolidS.s5 k self21 self67 (laws_szSolidS.l5 k self21 self67 n) x0 x1 x5
noncomputable def laws_szSolidS.fs (k : Nat) (self21 : Tree → Int → Option Int) (self67 : (List Tree) → Int → Option Int) (a0 : List Tree) (a1 : Int) : Option Int :=
  if (decide ((W (a1 - (a0.length : Int))) < 0)) = true then (some (-1)) else ((laws_szSolidS.l5 k self21 self67 k a0 (W (a1 - (a0.length : Int))) 0).bind fun | .inl r2 => (some r2.1.1) | .inr x3 => (some x3.1.1))
noncomputable def laws_szSolid.fs (k : Nat) (self21 : Tree → Int → Option Int) (self67 : (List Tree) → Int → Option Int) (a0 : Tree) (a1 : Int) : Option Int :=
  (self67  a0.kids a1).bind fun t1 => if (decide (t1 < 0)) = true then (some (-1)) else (some t1)
mutual
noncomputable def laws_szSolidS.f : Nat → (List Tree) → Int → Option Int
  | 0, _, _ => none
  | k + 1, a0, a1 => laws_szSolidS.fs k (laws_szSolid.f k) (laws_szSolidS.f k) a0 a1
noncomputable def laws_szSolid.f : Nat → Tree → Int → Option Int
  | 0, _, _ => none
  | k + 1, a0, a1 => laws_szSolid.fs k (laws_szSolid.f k) (laws_szSolidS.f k) a0 a1
end
theorem laws_szSolidS.fS (k : Nat) (a0 : List Tree) (a1 : Int) : laws_szSolidS.f (k + 1) a0 a1 = laws_szSolidS.fs k (laws_szSolid.f k) (laws_szSolidS.f k) a0 a1 := by first | rfl | rw [laws_szSolidS.f]
theorem laws_szSolid.fS (k : Nat) (a0 : Tree) (a1 : Int) : laws_szSolid.f (k + 1) a0 a1 = laws_szSolid.fs k (laws_szSolid.f k) (laws_szSolidS.f k) a0 a1 := by first | rfl | rw [laws_szSolid.f]
noncomputable def laws_szSolidS.e (k : Nat) : FE := { α := (List Tree) × Int × Unit, β := Int, args := (lCons (aSl .tree) (lCons (aI .i64) lNil)), ret := (rOne (aI .i64)), f := fun p => laws_szSolidS.f k p.1 p.2.1 }
noncomputable def laws_szSolid.e (k : Nat) : FE := { α := Tree × Int × Unit, β := Int, args := (lCons aTree (lCons (aI .i64) lNil)), ret := (rOne (aI .i64)), f := fun p => laws_szSolid.f k p.1 p.2.1 }
noncomputable def laws_szSolidS.c (k : Nat) : List (Nat × CE) := [(21, .fn (laws_szSolid.e k))]
noncomputable def laws_szSolidS.bd : Code := match Try.f67.body with | some c => c | none => .skip
noncomputable def laws_szSolidS.e5 (k : Nat) : LE := { H := laws_szSolidS.H5, α := laws_szSolidS.A5, β := laws_szSolidS.B5, st := laws_szSolidS.Z5, xt := laws_szSolidS.X5, f := fun p => laws_szSolidS.l5 k (laws_szSolid.f k) (laws_szSolidS.f k) k p.1.1 p.1.2.1 p.1.2.2.1 }
noncomputable def laws_szSolidS.g (k : Nat) : List (Nat × LE) := [(5, laws_szSolidS.e5 k)]
theorem laws_szSolidS.t5 (k : Nat) (I : S2 → Option laws_szSolidS.B5) (x0 : List Tree) (x1 : Int) (x5 : Int) : stepOf (mkCx Try.prog (laws_szSolidS.c k) (laws_szSolidS.g k) : Cx laws_szSolidS.B5) (loopAt laws_szSolidS.bd 0) laws_szSolidS.H5 laws_szSolidS.X5.dec I (laws_szSolidS.Z5.enc ((x0, x1, x5, ()), (()))) = laws_szSolidS.s5 k (laws_szSolid.f k) (laws_szSolidS.f k) (fun x0 x1 x5 => I (laws_szSolidS.Z5.enc ((x0, x1, x5, ()), (())))) x0 x1 x5 := by kernel_rfl
theorem laws_szSolidS.i5 (k : Nat) : ∀ (n : Nat) (x0 : List Tree) (x1 : Int) (x5 : Int), iter (evCode (mkCx Try.prog (laws_szSolidS.c k) (laws_szSolidS.g k) : Cx laws_szSolidS.B5) (loopAt laws_szSolidS.bd 0)) laws_szSolidS.H5 laws_szSolidS.X5.dec n (laws_szSolidS.Z5.enc ((x0, x1, x5, ()), (()))) = laws_szSolidS.l5 k (laws_szSolid.f k) (laws_szSolidS.f k) n x0 x1 x5
  | 0, _, _, _ => rfl
  | n + 1, x0, x1, x5 => ((iter_step _ _ _ _ n _).trans (laws_szSolidS.t5 k _ x0 x1 x5)).trans (congrArg (fun J => laws_szSolidS.s5 k (laws_szSolid.f k) (laws_szSolidS.f k) J x0 x1 x5) (funext fun x0 => funext fun x1 => funext fun x5 => laws_szSolidS.i5 k n x0 x1 x5))
theorem laws_szSolidS.to5 (k : Nat) (hC : AllFun Try.prog (laws_szSolidS.c k)) : LoopTo Try.prog 27 (laws_szSolidS.e5 k) (loopAt laws_szSolidS.bd 0) := loop_to mixed hC (by kernel_rfl) (loops_all 0 (by kernel_rfl) fun i hi => absurd hi (Nat.not_lt_zero i)) fun a b h => ⟨k, (laws_szSolidS.i5 k k a.1.1 a.1.2.1 a.1.2.2.1).trans h⟩
theorem laws_szSolidS.link (k : Nat) (a0 : List Tree) (a1 : Int) : evFun (mkCx Try.prog (laws_szSolidS.c k) (laws_szSolidS.g k) : Cx Int) Try.f67 ((laws_szSolidS.e (k + 1)).args.enc (a0, a1, ())) (laws_szSolidS.e (k + 1)).ret.dec = laws_szSolidS.fs k (laws_szSolid.f k) (laws_szSolidS.f k) a0 a1 := by kernel_rfl
theorem laws_szSolidS.ok1 (k : Nat) (hC : AllFun Try.prog (laws_szSolidS.c k)) : Fun Try.prog 67 (laws_szSolidS.e (k + 1)).G := fun_ok mixed (body := laws_szSolidS.bd) Try.func67 (by kernel_rfl) (by kernel_rfl) (by kernel_rfl) hC (loops_all 1 (by kernel_rfl) fun i hi => by obtain rfl : i = 0 := Nat.lt_one_iff.1 hi; exact ⟨laws_szSolidS.e5 k, by kernel_rfl, laws_szSolidS.to5 k hC⟩) (laws_szSolidS.e (k + 1)) (fun a => Nat.le_of_ble_eq_true (by kernel_rfl)) fun a b h => (laws_szSolidS.link k a.1 a.2.1).trans ((laws_szSolidS.fS k a.1 a.2.1).symm.trans h)
noncomputable def laws_szSolid.c (k : Nat) : List (Nat × CE) := [(67, .fn (laws_szSolidS.e k))]
noncomputable def laws_szSolid.bd : Code := match Try.f21.body with | some c => c | none => .skip
noncomputable def laws_szSolid.g (k : Nat) : List (Nat × LE) := []
theorem laws_szSolid.link (k : Nat) (a0 : Tree) (a1 : Int) : evFun (mkCx Try.prog (laws_szSolid.c k) (laws_szSolid.g k) : Cx Int) Try.f21 ((laws_szSolid.e (k + 1)).args.enc (a0, a1, ())) (laws_szSolid.e (k + 1)).ret.dec = laws_szSolid.fs k (laws_szSolid.f k) (laws_szSolidS.f k) a0 a1 := by kernel_rfl
theorem laws_szSolid.ok1 (k : Nat) (hC : AllFun Try.prog (laws_szSolid.c k)) : Fun Try.prog 21 (laws_szSolid.e (k + 1)).G := fun_ok mixed (body := laws_szSolid.bd) Try.func21 (by kernel_rfl) (by kernel_rfl) (by kernel_rfl) hC (loops_all 0 (by kernel_rfl) fun i hi => absurd hi (Nat.not_lt_zero i)) (laws_szSolid.e (k + 1)) (fun a => Nat.le_of_ble_eq_true (by kernel_rfl)) fun a b h => (laws_szSolid.link k a.1 a.2.1).trans ((laws_szSolid.fS k a.1 a.2.1).symm.trans h)
theorem laws_szSolidS.okk : ∀ k, Fun Try.prog 67 (laws_szSolidS.e k).G ∧ Fun Try.prog 21 (laws_szSolid.e k).G
  | 0 => ⟨fun_zero (by kernel_rfl) fun _ => rfl, fun_zero (by kernel_rfl) fun _ => rfl⟩
  | k + 1 => have h := laws_szSolidS.okk k; ⟨laws_szSolidS.ok1 k ⟨h.2, trivial⟩, laws_szSolid.ok1 k ⟨h.1, trivial⟩⟩
theorem laws_szSolidS.ok (k : Nat) : Fun Try.prog 67 (laws_szSolidS.e k).G := (laws_szSolidS.okk k).1
theorem laws_szSolid.ok (k : Nat) : Fun Try.prog 21 (laws_szSolid.e k).G := (laws_szSolidS.okk k).2

end Go.Proofs.Ytfgaeenlnkioaaa.G
