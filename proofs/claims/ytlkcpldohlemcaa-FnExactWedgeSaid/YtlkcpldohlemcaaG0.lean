/- Go functions told as plain Lean functions; that the code does what these tell. Printed by a program of the session (evp.py). -/
import Derived.Test.YtlkcpldohlemcaaEv16
import Derived.Test.YtlkcpldohlemcaaNd
namespace Go.Proofs.Ytlkcpldohlemcaa.G
open Go Go.RowKit Go.Proofs Go.Proofs.Ytlkcpldohlemcaa.Ev
set_option linter.unusedVariables false
set_option maxRecDepth 100000

noncomputable def spec_l1In.f (k : Nat) (a0 : Int) (a1 : Int) (a2 : Int) : Option Bool :=
  if (decide (a0 ≥ a1)) = true then (some (decide (a0 ≤ a2))) else (some false)
noncomputable def spec_l1In.e (k : Nat) : FE := { α := Int × Int × Int × Unit, β := Bool, args := (lCons (aI .i64) (lCons (aI .i64) (lCons (aI .i64) lNil))), ret := (rOne aB), f := fun p => spec_l1In.f k p.1 p.2.1 p.2.2.1 }
noncomputable def spec_l1In.c (k : Nat) : List (Nat × CE) := []
noncomputable def spec_l1In.bd : Code := match Try.f156.body with | some c => c | none => .skip
noncomputable def spec_l1In.g (k : Nat) : List (Nat × LE) := []
theorem spec_l1In.link (k : Nat) (a0 : Int) (a1 : Int) (a2 : Int) : evFun (mkCx Try.prog (spec_l1In.c k) (spec_l1In.g k) : Cx Bool) Try.f156 ((spec_l1In.e k).args.enc (a0, a1, a2, ())) (spec_l1In.e k).ret.dec = spec_l1In.f k a0 a1 a2 := by kernel_rfl
theorem spec_l1In.ok1 (k : Nat) (hC : AllFun Try.prog (spec_l1In.c k)) : Fun Try.prog 156 (spec_l1In.e k).G := fun_ok mixed (body := spec_l1In.bd) Try.func156 (by kernel_rfl) (by kernel_rfl) (by kernel_rfl) hC (loops_all 0 (by kernel_rfl) fun i hi => absurd hi (Nat.not_lt_zero i)) (spec_l1In.e k) (fun a => Nat.le_of_ble_eq_true (by kernel_rfl)) fun a b h => (spec_l1In.link k a.1 a.2.1 a.2.2.1).trans h
theorem spec_l1In.ok (k : Nat) : Fun Try.prog 156 (spec_l1In.e k).G := spec_l1In.ok1 k trivial

noncomputable def spec_l3In.f (k : Nat) (a0 : S4) : Option Bool :=
  (spec_l1In.f k  a0.a (W (0 - 500)) 500).bind fun t1 => if t1 = true then ((spec_l1In.f k  a0.b (W (0 - 500)) 500).bind fun t2 => if t2 = true then ((spec_l1In.f k  a0.c (W (0 - 500)) 500).bind fun t3 => if t3 = true then ((spec_l1In.f k  a0.d (W (0 - 500)) 500).bind fun t4 => some t4) else (some false)) else (some false)) else (some false)
noncomputable def spec_l3In.e (k : Nat) : FE := { α := S4 × Unit, β := Bool, args := (lCons aS4 lNil), ret := (rOne aB), f := fun p => spec_l3In.f k p.1 }
noncomputable def spec_l3In.c (k : Nat) : List (Nat × CE) := [(156, .fn (spec_l1In.e k))]
noncomputable def spec_l3In.bd : Code := match Try.f138.body with | some c => c | none => .skip
noncomputable def spec_l3In.g (k : Nat) : List (Nat × LE) := []
theorem spec_l3In.link (k : Nat) (a0 : S4) : evFun (mkCx Try.prog (spec_l3In.c k) (spec_l3In.g k) : Cx Bool) Try.f138 ((spec_l3In.e k).args.enc (a0, ())) (spec_l3In.e k).ret.dec = spec_l3In.f k a0 := by kernel_rfl
theorem spec_l3In.ok1 (k : Nat) (hC : AllFun Try.prog (spec_l3In.c k)) : Fun Try.prog 138 (spec_l3In.e k).G := fun_ok mixed (body := spec_l3In.bd) Try.func138 (by kernel_rfl) (by kernel_rfl) (by kernel_rfl) hC (loops_all 0 (by kernel_rfl) fun i hi => absurd hi (Nat.not_lt_zero i)) (spec_l3In.e k) (fun a => Nat.le_of_ble_eq_true (by kernel_rfl)) fun a b h => (spec_l3In.link k a.1).trans h
theorem spec_l3In.ok (k : Nat) : Fun Try.prog 138 (spec_l3In.e k).G := spec_l3In.ok1 k ⟨spec_l1In.ok k, trivial⟩

noncomputable def spec_l3Abs.f (k : Nat) (a0 : Int) : Option Int :=
  if (decide (a0 < 0)) = true then (some (W (0 - a0))) else (some a0)
noncomputable def spec_l3Abs.e (k : Nat) : FE := { α := Int × Unit, β := Int, args := (lCons (aI .i64) lNil), ret := (rOne (aI .i64)), f := fun p => spec_l3Abs.f k p.1 }
noncomputable def spec_l3Abs.c (k : Nat) : List (Nat × CE) := []
noncomputable def spec_l3Abs.bd : Code := match Try.f194.body with | some c => c | none => .skip
noncomputable def spec_l3Abs.g (k : Nat) : List (Nat × LE) := []
theorem spec_l3Abs.link (k : Nat) (a0 : Int) : evFun (mkCx Try.prog (spec_l3Abs.c k) (spec_l3Abs.g k) : Cx Int) Try.f194 ((spec_l3Abs.e k).args.enc (a0, ())) (spec_l3Abs.e k).ret.dec = spec_l3Abs.f k a0 := by kernel_rfl
theorem spec_l3Abs.ok1 (k : Nat) (hC : AllFun Try.prog (spec_l3Abs.c k)) : Fun Try.prog 194 (spec_l3Abs.e k).G := fun_ok mixed (body := spec_l3Abs.bd) Try.func194 (by kernel_rfl) (by kernel_rfl) (by kernel_rfl) hC (loops_all 0 (by kernel_rfl) fun i hi => absurd hi (Nat.not_lt_zero i)) (spec_l3Abs.e k) (fun a => Nat.le_of_ble_eq_true (by kernel_rfl)) fun a b h => (spec_l3Abs.link k a.1).trans h
theorem spec_l3Abs.ok (k : Nat) : Fun Try.prog 194 (spec_l3Abs.e k).G := spec_l3Abs.ok1 k trivial

noncomputable def spec_l3Gcd.H3 : Hd := ⟨[], [0, 1], [], [], []⟩
@[reducible] def spec_l3Gcd.A3 : Type := ((Int × Int × Unit) × (Unit))
noncomputable def spec_l3Gcd.Z3 : SC spec_l3Gcd.A3 := sC spec_l3Gcd.H3 (eCons 0 (tP (aI .i64)) (eCons 1 (tP (aI .i64)) eNil)) bNil
@[reducible] def spec_l3Gcd.B3 : Type := ((Int × Unit) × (Unit))
noncomputable def spec_l3Gcd.X3 : XC spec_l3Gcd.B3 := xExit 0 (sC ⟨[], [0], [], [], []⟩ (eCons 0 (tP (aI .i64)) eNil) bNil)
noncomputable def spec_l3Gcd.s3 (k : Nat)  (J : Int → Int → Option spec_l3Gcd.B3) (x0 : Int) (x1 : Int) : Option spec_l3Gcd.B3 :=
  if (decide (x1 > 0)) = true then (if x1 = 0 then none else (J x1 (x0.tmod x1))) else (some ((x0, ()), (())))
noncomputable def spec_l3Gcd.l3 (k : Nat)  : Nat → Int → Int → Option spec_l3Gcd.B3
  | 0, _, _ => none
  | n + 1, x0, x1 => spec_l3Gcd.s3 k (spec_l3Gcd.l3 k n) x0 x1
noncomputable def spec_l3Gcd.f (k : Nat) (a0 : Int) (a1 : Int) : Option Int :=
  (spec_l3Abs.f k  a0).bind fun t1 => (spec_l3Abs.f k  a1).bind fun t2 => (spec_l3Gcd.l3 k k t1 t2).bind fun x3 => some x3.1.1
noncomputable def spec_l3Gcd.e (k : Nat) : FE := { α := Int × Int × Unit, β := Int, args := (lCons (aI .i64) (lCons (aI .i64) lNil)), ret := (rOne (aI .i64)), f := fun p => spec_l3Gcd.f k p.1 p.2.1 }
noncomputable def spec_l3Gcd.c (k : Nat) : List (Nat × CE) := [(194, .fn (spec_l3Abs.e k))]
noncomputable def spec_l3Gcd.bd : Code := match Try.f139.body with | some c => c | none => .skip
noncomputable def spec_l3Gcd.e3 (k : Nat) : LE := { H := spec_l3Gcd.H3, α := spec_l3Gcd.A3, β := spec_l3Gcd.B3, st := spec_l3Gcd.Z3, xt := spec_l3Gcd.X3, f := fun p => spec_l3Gcd.l3 k k p.1.1 p.1.2.1 }
noncomputable def spec_l3Gcd.g (k : Nat) : List (Nat × LE) := [(3, spec_l3Gcd.e3 k)]
theorem spec_l3Gcd.t3 (k : Nat) (I : S2 → Option spec_l3Gcd.B3) (x0 : Int) (x1 : Int) : stepOf (mkCx Try.prog (spec_l3Gcd.c k) (spec_l3Gcd.g k) : Cx spec_l3Gcd.B3) (loopAt spec_l3Gcd.bd 0) spec_l3Gcd.H3 spec_l3Gcd.X3.dec I (spec_l3Gcd.Z3.enc ((x0, x1, ()), (()))) = spec_l3Gcd.s3 k (fun x0 x1 => I (spec_l3Gcd.Z3.enc ((x0, x1, ()), (())))) x0 x1 := by kernel_rfl
theorem spec_l3Gcd.i3 (k : Nat) : ∀ (n : Nat) (x0 : Int) (x1 : Int), iter (evCode (mkCx Try.prog (spec_l3Gcd.c k) (spec_l3Gcd.g k) : Cx spec_l3Gcd.B3) (loopAt spec_l3Gcd.bd 0)) spec_l3Gcd.H3 spec_l3Gcd.X3.dec n (spec_l3Gcd.Z3.enc ((x0, x1, ()), (()))) = spec_l3Gcd.l3 k n x0 x1
  | 0, _, _ => rfl
  | n + 1, x0, x1 => ((iter_step _ _ _ _ n _).trans (spec_l3Gcd.t3 k _ x0 x1)).trans (congrArg (fun J => spec_l3Gcd.s3 k J x0 x1) (funext fun x0 => funext fun x1 => spec_l3Gcd.i3 k n x0 x1))
theorem spec_l3Gcd.to3 (k : Nat) (hC : AllFun Try.prog (spec_l3Gcd.c k)) : LoopTo Try.prog 18 (spec_l3Gcd.e3 k) (loopAt spec_l3Gcd.bd 0) := loop_to mixed hC (by kernel_rfl) (loops_all 0 (by kernel_rfl) fun i hi => absurd hi (Nat.not_lt_zero i)) fun a b h => ⟨k, (spec_l3Gcd.i3 k k a.1.1 a.1.2.1).trans h⟩
theorem spec_l3Gcd.link (k : Nat) (a0 : Int) (a1 : Int) : evFun (mkCx Try.prog (spec_l3Gcd.c k) (spec_l3Gcd.g k) : Cx Int) Try.f139 ((spec_l3Gcd.e k).args.enc (a0, a1, ())) (spec_l3Gcd.e k).ret.dec = spec_l3Gcd.f k a0 a1 := by kernel_rfl
theorem spec_l3Gcd.ok1 (k : Nat) (hC : AllFun Try.prog (spec_l3Gcd.c k)) : Fun Try.prog 139 (spec_l3Gcd.e k).G := fun_ok mixed (body := spec_l3Gcd.bd) Try.func139 (by kernel_rfl) (by kernel_rfl) (by kernel_rfl) hC (loops_all 1 (by kernel_rfl) fun i hi => by obtain rfl : i = 0 := Nat.lt_one_iff.1 hi; exact ⟨spec_l3Gcd.e3 k, by kernel_rfl, spec_l3Gcd.to3 k hC⟩) (spec_l3Gcd.e k) (fun a => Nat.le_of_ble_eq_true (by kernel_rfl)) fun a b h => (spec_l3Gcd.link k a.1 a.2.1).trans h
theorem spec_l3Gcd.ok (k : Nat) : Fun Try.prog 139 (spec_l3Gcd.e k).G := spec_l3Gcd.ok1 k ⟨spec_l3Abs.ok k, trivial⟩

noncomputable def spec_PlaneOk.f (k : Nat) (a0 : S4) : Option Bool :=
  (spec_l3In.f k  a0).bind fun t1 => if t1 = true then (if (a0.a != 0) = true then ((spec_l3Gcd.f k  a0.a a0.b).bind fun t2 => (spec_l3Gcd.f k  a0.c a0.d).bind fun t3 => (spec_l3Gcd.f k  t2 t3).bind fun t4 => some (t4 == 1)) else (if (a0.b != 0) = true then ((spec_l3Gcd.f k  a0.a a0.b).bind fun t5 => (spec_l3Gcd.f k  a0.c a0.d).bind fun t6 => (spec_l3Gcd.f k  t5 t6).bind fun t7 => some (t7 == 1)) else (if (a0.c != 0) = true then ((spec_l3Gcd.f k  a0.a a0.b).bind fun t8 => (spec_l3Gcd.f k  a0.c a0.d).bind fun t9 => (spec_l3Gcd.f k  t8 t9).bind fun t10 => some (t10 == 1)) else (some false)))) else (some false)
noncomputable def spec_PlaneOk.e (k : Nat) : FE := { α := S4 × Unit, β := Bool, args := (lCons aS4 lNil), ret := (rOne aB), f := fun p => spec_PlaneOk.f k p.1 }
noncomputable def spec_PlaneOk.c (k : Nat) : List (Nat × CE) := [(138, .fn (spec_l3In.e k)), (139, .fn (spec_l3Gcd.e k))]
noncomputable def spec_PlaneOk.bd : Code := match Try.f67.body with | some c => c | none => .skip
noncomputable def spec_PlaneOk.g (k : Nat) : List (Nat × LE) := []
theorem spec_PlaneOk.link (k : Nat) (a0 : S4) : evFun (mkCx Try.prog (spec_PlaneOk.c k) (spec_PlaneOk.g k) : Cx Bool) Try.f67 ((spec_PlaneOk.e k).args.enc (a0, ())) (spec_PlaneOk.e k).ret.dec = spec_PlaneOk.f k a0 := by kernel_rfl
theorem spec_PlaneOk.ok1 (k : Nat) (hC : AllFun Try.prog (spec_PlaneOk.c k)) : Fun Try.prog 67 (spec_PlaneOk.e k).G := fun_ok mixed (body := spec_PlaneOk.bd) Try.func67 (by kernel_rfl) (by kernel_rfl) (by kernel_rfl) hC (loops_all 0 (by kernel_rfl) fun i hi => absurd hi (Nat.not_lt_zero i)) (spec_PlaneOk.e k) (fun a => Nat.le_of_ble_eq_true (by kernel_rfl)) fun a b h => (spec_PlaneOk.link k a.1).trans h
theorem spec_PlaneOk.ok (k : Nat) : Fun Try.prog 67 (spec_PlaneOk.e k).G := spec_PlaneOk.ok1 k ⟨spec_l3In.ok k, spec_l3Gcd.ok k, trivial⟩

noncomputable def spec_Leaf.f (k : Nat) (a0 : Bool) : Option Tree :=
  some (Tree.mk a0 ⟨0, 0, 0, 0⟩ ([] : List Tree))
noncomputable def spec_Leaf.e (k : Nat) : FE := { α := Bool × Unit, β := Tree, args := (lCons aB lNil), ret := (rOne aTree), f := fun p => spec_Leaf.f k p.1 }
noncomputable def spec_Leaf.c (k : Nat) : List (Nat × CE) := []
noncomputable def spec_Leaf.bd : Code := match Try.f85.body with | some c => c | none => .skip
noncomputable def spec_Leaf.g (k : Nat) : List (Nat × LE) := []
theorem spec_Leaf.link (k : Nat) (a0 : Bool) : evFun (mkCx Try.prog (spec_Leaf.c k) (spec_Leaf.g k) : Cx Tree) Try.f85 ((spec_Leaf.e k).args.enc (a0, ())) (spec_Leaf.e k).ret.dec = spec_Leaf.f k a0 := by kernel_rfl
theorem spec_Leaf.ok1 (k : Nat) (hC : AllFun Try.prog (spec_Leaf.c k)) : Fun Try.prog 85 (spec_Leaf.e k).G := fun_ok mixed (body := spec_Leaf.bd) Try.func85 (by kernel_rfl) (by kernel_rfl) (by kernel_rfl) hC (loops_all 0 (by kernel_rfl) fun i hi => absurd hi (Nat.not_lt_zero i)) (spec_Leaf.e k) (fun a => Nat.le_of_ble_eq_true (by kernel_rfl)) fun a b h => (spec_Leaf.link k a.1).trans h
theorem spec_Leaf.ok (k : Nat) : Fun Try.prog 85 (spec_Leaf.e k).G := spec_Leaf.ok1 k trivial

noncomputable def spec_l8Node.f (k : Nat) (a0 : S4) (a1 : Tree) (a2 : Tree) : Option Tree :=
  some (Tree.mk false a0 ([(T1 a1), (T1 a2)] : List Tree))
noncomputable def spec_l8Node.e (k : Nat) : FE := { α := S4 × Tree × Tree × Unit, β := Tree, args := (lCons aS4 (lCons aTree (lCons aTree lNil))), ret := (rOne aTree), f := fun p => spec_l8Node.f k p.1 p.2.1 p.2.2.1 }
noncomputable def spec_l8Node.c (k : Nat) : List (Nat × CE) := []
noncomputable def spec_l8Node.bd : Code := match Try.f86.body with | some c => c | none => .skip
noncomputable def spec_l8Node.g (k : Nat) : List (Nat × LE) := []
theorem spec_l8Node.link (k : Nat) (a0 : S4) (a1 : Tree) (a2 : Tree) : evFun (mkCx Try.prog (spec_l8Node.c k) (spec_l8Node.g k) : Cx Tree) Try.f86 ((spec_l8Node.e k).args.enc (a0, a1, a2, ())) (spec_l8Node.e k).ret.dec = spec_l8Node.f k a0 a1 a2 := by kernel_rfl
theorem spec_l8Node.ok1 (k : Nat) (hC : AllFun Try.prog (spec_l8Node.c k)) : Fun Try.prog 86 (spec_l8Node.e k).G := fun_ok mixed (body := spec_l8Node.bd) Try.func86 (by kernel_rfl) (by kernel_rfl) (by kernel_rfl) hC (loops_all 0 (by kernel_rfl) fun i hi => absurd hi (Nat.not_lt_zero i)) (spec_l8Node.e k) (fun a => Nat.le_of_ble_eq_true (by kernel_rfl)) fun a b h => (spec_l8Node.link k a.1 a.2.1 a.2.2.1).trans h
theorem spec_l8Node.ok (k : Nat) : Fun Try.prog 86 (spec_l8Node.e k).G := spec_l8Node.ok1 k trivial

noncomputable def spec_HalfOf.f (k : Nat) (a0 : S4) : Option (Tree × Bool × Unit) :=
  (spec_PlaneOk.f k  a0).bind fun t1 => if (!t1) = true then ((spec_Leaf.f k  false).bind fun t2 => some ((T1 t2), false, ())) else ((spec_Leaf.f k  true).bind fun t3 => (spec_Leaf.f k  false).bind fun t4 => (spec_l8Node.f k  a0 (T1 t3) (T1 t4)).bind fun t5 => some ((T1 t5), true, ()))
noncomputable def spec_HalfOf.e (k : Nat) : FE := { α := S4 × Unit, β := (Tree × Bool × Unit), args := (lCons aS4 lNil), ret := (rMany (lCons aTree (lCons aB lNil))), f := fun p => spec_HalfOf.f k p.1 }
noncomputable def spec_HalfOf.c (k : Nat) : List (Nat × CE) := [(67, .fn (spec_PlaneOk.e k)), (85, .fn (spec_Leaf.e k)), (86, .fn (spec_l8Node.e k))]
noncomputable def spec_HalfOf.bd : Code := match Try.f16.body with | some c => c | none => .skip
noncomputable def spec_HalfOf.g (k : Nat) : List (Nat × LE) := []
theorem spec_HalfOf.link (k : Nat) (a0 : S4) : evFun (mkCx Try.prog (spec_HalfOf.c k) (spec_HalfOf.g k) : Cx (Tree × Bool × Unit)) Try.f16 ((spec_HalfOf.e k).args.enc (a0, ())) (spec_HalfOf.e k).ret.dec = spec_HalfOf.f k a0 := by kernel_rfl
theorem spec_HalfOf.ok1 (k : Nat) (hC : AllFun Try.prog (spec_HalfOf.c k)) : Fun Try.prog 16 (spec_HalfOf.e k).G := fun_ok mixed (body := spec_HalfOf.bd) Try.func16 (by kernel_rfl) (by kernel_rfl) (by kernel_rfl) hC (loops_all 0 (by kernel_rfl) fun i hi => absurd hi (Nat.not_lt_zero i)) (spec_HalfOf.e k) (fun a => Nat.le_of_ble_eq_true (by kernel_rfl)) fun a b h => (spec_HalfOf.link k a.1).trans h
theorem spec_HalfOf.ok (k : Nat) : Fun Try.prog 16 (spec_HalfOf.e k).G := spec_HalfOf.ok1 k ⟨spec_PlaneOk.ok k, spec_Leaf.ok k, spec_l8Node.ok k, trivial⟩

noncomputable def laws_toPlane.f (k : Nat) (a0 : S4) : Option S4 :=
  some a0
noncomputable def laws_toPlane.e (k : Nat) : FE := { α := S4 × Unit, β := S4, args := (lCons aS4 lNil), ret := (rOne aS4), f := fun p => laws_toPlane.f k p.1 }
noncomputable def laws_toPlane.c (k : Nat) : List (Nat × CE) := []
noncomputable def laws_toPlane.bd : Code := match Try.f17.body with | some c => c | none => .skip
noncomputable def laws_toPlane.g (k : Nat) : List (Nat × LE) := []
theorem laws_toPlane.link (k : Nat) (a0 : S4) : evFun (mkCx Try.prog (laws_toPlane.c k) (laws_toPlane.g k) : Cx S4) Try.f17 ((laws_toPlane.e k).args.enc (a0, ())) (laws_toPlane.e k).ret.dec = laws_toPlane.f k a0 := by kernel_rfl
theorem laws_toPlane.ok1 (k : Nat) (hC : AllFun Try.prog (laws_toPlane.c k)) : Fun Try.prog 17 (laws_toPlane.e k).G := fun_ok mixed (body := laws_toPlane.bd) Try.func17 (by kernel_rfl) (by kernel_rfl) (by kernel_rfl) hC (loops_all 0 (by kernel_rfl) fun i hi => absurd hi (Nat.not_lt_zero i)) (laws_toPlane.e k) (fun a => Nat.le_of_ble_eq_true (by kernel_rfl)) fun a b h => (laws_toPlane.link k a.1).trans h
theorem laws_toPlane.ok (k : Nat) : Fun Try.prog 17 (laws_toPlane.e k).G := laws_toPlane.ok1 k trivial

noncomputable def impl_inRange.f (k : Nat) (a0 : Int) (a1 : Int) (a2 : Int) : Option Bool :=
  if (decide (a0 ≥ a1)) = true then (some (decide (a0 ≤ a2))) else (some false)
noncomputable def impl_inRange.e (k : Nat) : FE := { α := Int × Int × Int × Unit, β := Bool, args := (lCons (aI .i64) (lCons (aI .i64) (lCons (aI .i64) lNil))), ret := (rOne aB), f := fun p => impl_inRange.f k p.1 p.2.1 p.2.2.1 }
noncomputable def impl_inRange.c (k : Nat) : List (Nat × CE) := []
noncomputable def impl_inRange.bd : Code := match Try.f126.body with | some c => c | none => .skip
noncomputable def impl_inRange.g (k : Nat) : List (Nat × LE) := []
theorem impl_inRange.link (k : Nat) (a0 : Int) (a1 : Int) (a2 : Int) : evFun (mkCx Try.prog (impl_inRange.c k) (impl_inRange.g k) : Cx Bool) Try.f126 ((impl_inRange.e k).args.enc (a0, a1, a2, ())) (impl_inRange.e k).ret.dec = impl_inRange.f k a0 a1 a2 := by kernel_rfl
theorem impl_inRange.ok1 (k : Nat) (hC : AllFun Try.prog (impl_inRange.c k)) : Fun Try.prog 126 (impl_inRange.e k).G := fun_ok mixed (body := impl_inRange.bd) Try.func126 (by kernel_rfl) (by kernel_rfl) (by kernel_rfl) hC (loops_all 0 (by kernel_rfl) fun i hi => absurd hi (Nat.not_lt_zero i)) (impl_inRange.e k) (fun a => Nat.le_of_ble_eq_true (by kernel_rfl)) fun a b h => (impl_inRange.link k a.1 a.2.1 a.2.2.1).trans h
theorem impl_inRange.ok (k : Nat) : Fun Try.prog 126 (impl_inRange.e k).G := impl_inRange.ok1 k trivial

noncomputable def impl_isCoef.f (k : Nat) (a0 : Int) : Option Bool :=
  (impl_inRange.f k  a0 (-500) 500).bind fun t1 => some t1
noncomputable def impl_isCoef.e (k : Nat) : FE := { α := Int × Unit, β := Bool, args := (lCons (aI .i64) lNil), ret := (rOne aB), f := fun p => impl_isCoef.f k p.1 }
noncomputable def impl_isCoef.c (k : Nat) : List (Nat × CE) := [(126, .fn (impl_inRange.e k))]
noncomputable def impl_isCoef.bd : Code := match Try.f123.body with | some c => c | none => .skip
noncomputable def impl_isCoef.g (k : Nat) : List (Nat × LE) := []
theorem impl_isCoef.link (k : Nat) (a0 : Int) : evFun (mkCx Try.prog (impl_isCoef.c k) (impl_isCoef.g k) : Cx Bool) Try.f123 ((impl_isCoef.e k).args.enc (a0, ())) (impl_isCoef.e k).ret.dec = impl_isCoef.f k a0 := by kernel_rfl
theorem impl_isCoef.ok1 (k : Nat) (hC : AllFun Try.prog (impl_isCoef.c k)) : Fun Try.prog 123 (impl_isCoef.e k).G := fun_ok mixed (body := impl_isCoef.bd) Try.func123 (by kernel_rfl) (by kernel_rfl) (by kernel_rfl) hC (loops_all 0 (by kernel_rfl) fun i hi => absurd hi (Nat.not_lt_zero i)) (impl_isCoef.e k) (fun a => Nat.le_of_ble_eq_true (by kernel_rfl)) fun a b h => (impl_isCoef.link k a.1).trans h
theorem impl_isCoef.ok (k : Nat) : Fun Try.prog 123 (impl_isCoef.e k).G := impl_isCoef.ok1 k ⟨impl_inRange.ok k, trivial⟩

noncomputable def impl_divisor.H6 : Hd := ⟨[], [3, 5, 6, 7, 8], [], [], []⟩
@[reducible] def impl_divisor.A6 : Type := ((Int × Int × (List Int) × Int × Int × Unit) × (Unit))
noncomputable def impl_divisor.Z6 : SC impl_divisor.A6 := sC impl_divisor.H6 (eCons 3 (tP (aI .i64)) (eCons 5 (tP (aI .i64)) (eCons 6 (tP (aSl (.i .i64))) (eCons 7 (tP (aI .i64)) (eCons 8 (tP (aI .i64)) eNil))))) bNil
@[reducible] def impl_divisor.B6 : Type := ((Int × (List Int) × Int × Int × Unit) × (Unit))
noncomputable def impl_divisor.X6 : XC impl_divisor.B6 := xExit 2 (sC ⟨[], [3, 6, 7, 8], [], [], []⟩ (eCons 3 (tP (aI .i64)) (eCons 6 (tP (aSl (.i .i64))) (eCons 7 (tP (aI .i64)) (eCons 8 (tP (aI .i64)) eNil)))) bNil)
noncomputable def impl_divisor.s6 (k : Nat)  (J : Int → Int → (List Int) → Int → Int → Option impl_divisor.B6) (x3 : Int) (x5 : Int) (x6 : List Int) (x7 : Int) (x8 : Int) : Option impl_divisor.B6 :=
  if (x5 != 0) = true then (if x5 = 0 then none else (J x5 (x3.tmod x5) x6 x7 x8)) else (some ((x3, x6, x7, x8, ()), (())))
noncomputable def impl_divisor.l6 (k : Nat)  : Nat → Int → Int → (List Int) → Int → Int → Option impl_divisor.B6
  | 0, _, _, _, _, _ => none
  | n + 1, x3, x5, x6, x7, x8 => impl_divisor.s6 k (impl_divisor.l6 k n) x3 x5 x6 x7 x8
noncomputable def impl_divisor.H3 : Hd := ⟨[], [3, 6, 7, 8], [], [], []⟩
@[reducible] def impl_divisor.A3 : Type := ((Int × (List Int) × Int × Int × Unit) × (Unit))
noncomputable def impl_divisor.Z3 : SC impl_divisor.A3 := sC impl_divisor.H3 (eCons 3 (tP (aI .i64)) (eCons 6 (tP (aSl (.i .i64))) (eCons 7 (tP (aI .i64)) (eCons 8 (tP (aI .i64)) eNil)))) bNil
@[reducible] def impl_divisor.B3 : Type := ((Int × Unit) × (Unit))
noncomputable def impl_divisor.X3 : XC impl_divisor.B3 := xExit 0 (sC ⟨[], [3], [], [], []⟩ (eCons 3 (tP (aI .i64)) eNil) bNil)
noncomputable def impl_divisor.s3 (k : Nat)  (J : Int → (List Int) → Int → Int → Option impl_divisor.B3) (x3 : Int) (x6 : List Int) (x7 : Int) (x8 : Int) : Option impl_divisor.B3 :=
  if (decide (x8 < x7)) = true then (if 0 ≤ x8 then (if x8 < (x6.length : Int) then ((impl_divisor.l6 k k x3 (if (W (0 - (rd x6 x8))) > (rd x6 x8) then (W (0 - (rd x6 x8))) else (rd x6 x8)) x6 x7 x8).bind fun x1 => J x1.1.1 x1.1.2.1 x1.1.2.2.1 (W (x1.1.2.2.2.1 + 1))) else none) else none) else (some ((x3, ()), (())))
noncomputable def impl_divisor.l3 (k : Nat)  : Nat → Int → (List Int) → Int → Int → Option impl_divisor.B3
  | 0, _, _, _, _ => none
  | n + 1, x3, x6, x7, x8 => impl_divisor.s3 k (impl_divisor.l3 k n) x3 x6 x7 x8
noncomputable def impl_divisor.f (k : Nat) (a0 : List Int) : Option Int :=
  (impl_divisor.l3 k k 0 a0 (a0.length : Int) 0).bind fun x2 => some x2.1.1
noncomputable def impl_divisor.e (k : Nat) : FE := { α := (List Int) × Unit, β := Int, args := (lCons (aSl (.i .i64)) lNil), ret := (rOne (aI .i64)), f := fun p => impl_divisor.f k p.1 }
noncomputable def impl_divisor.c (k : Nat) : List (Nat × CE) := []
noncomputable def impl_divisor.bd : Code := match Try.f143.body with | some c => c | none => .skip
noncomputable def impl_divisor.e6 (k : Nat) : LE := { H := impl_divisor.H6, α := impl_divisor.A6, β := impl_divisor.B6, st := impl_divisor.Z6, xt := impl_divisor.X6, f := fun p => impl_divisor.l6 k k p.1.1 p.1.2.1 p.1.2.2.1 p.1.2.2.2.1 p.1.2.2.2.2.1 }
noncomputable def impl_divisor.e3 (k : Nat) : LE := { H := impl_divisor.H3, α := impl_divisor.A3, β := impl_divisor.B3, st := impl_divisor.Z3, xt := impl_divisor.X3, f := fun p => impl_divisor.l3 k k p.1.1 p.1.2.1 p.1.2.2.1 p.1.2.2.2.1 }
noncomputable def impl_divisor.g (k : Nat) : List (Nat × LE) := [(6, impl_divisor.e6 k), (3, impl_divisor.e3 k)]
theorem impl_divisor.t6 (k : Nat) (I : S2 → Option impl_divisor.B6) (x3 : Int) (x5 : Int) (x6 : List Int) (x7 : Int) (x8 : Int) : stepOf (mkCx Try.prog (impl_divisor.c k) (impl_divisor.g k) : Cx impl_divisor.B6) (loopAt (loopAt impl_divisor.bd 0) 0) impl_divisor.H6 impl_divisor.X6.dec I (impl_divisor.Z6.enc ((x3, x5, x6, x7, x8, ()), (()))) = impl_divisor.s6 k (fun x3 x5 x6 x7 x8 => I (impl_divisor.Z6.enc ((x3, x5, x6, x7, x8, ()), (())))) x3 x5 x6 x7 x8 := by kernel_rfl
theorem impl_divisor.i6 (k : Nat) : ∀ (n : Nat) (x3 : Int) (x5 : Int) (x6 : List Int) (x7 : Int) (x8 : Int), iter (evCode (mkCx Try.prog (impl_divisor.c k) (impl_divisor.g k) : Cx impl_divisor.B6) (loopAt (loopAt impl_divisor.bd 0) 0)) impl_divisor.H6 impl_divisor.X6.dec n (impl_divisor.Z6.enc ((x3, x5, x6, x7, x8, ()), (()))) = impl_divisor.l6 k n x3 x5 x6 x7 x8
  | 0, _, _, _, _, _ => rfl
  | n + 1, x3, x5, x6, x7, x8 => ((iter_step _ _ _ _ n _).trans (impl_divisor.t6 k _ x3 x5 x6 x7 x8)).trans (congrArg (fun J => impl_divisor.s6 k J x3 x5 x6 x7 x8) (funext fun x3 => funext fun x5 => funext fun x6 => funext fun x7 => funext fun x8 => impl_divisor.i6 k n x3 x5 x6 x7 x8))
theorem impl_divisor.t3 (k : Nat) (I : S2 → Option impl_divisor.B3) (x3 : Int) (x6 : List Int) (x7 : Int) (x8 : Int) : stepOf (mkCx Try.prog (impl_divisor.c k) (impl_divisor.g k) : Cx impl_divisor.B3) (loopAt impl_divisor.bd 0) impl_divisor.H3 impl_divisor.X3.dec I (impl_divisor.Z3.enc ((x3, x6, x7, x8, ()), (()))) = impl_divisor.s3 k (fun x3 x6 x7 x8 => I (impl_divisor.Z3.enc ((x3, x6, x7, x8, ()), (())))) x3 x6 x7 x8 := by kernel_rfl
theorem impl_divisor.i3 (k : Nat) : ∀ (n : Nat) (x3 : Int) (x6 : List Int) (x7 : Int) (x8 : Int), iter (evCode (mkCx Try.prog (impl_divisor.c k) (impl_divisor.g k) : Cx impl_divisor.B3) (loopAt impl_divisor.bd 0)) impl_divisor.H3 impl_divisor.X3.dec n (impl_divisor.Z3.enc ((x3, x6, x7, x8, ()), (()))) = impl_divisor.l3 k n x3 x6 x7 x8
  | 0, _, _, _, _ => rfl
  | n + 1, x3, x6, x7, x8 => ((iter_step _ _ _ _ n _).trans (impl_divisor.t3 k _ x3 x6 x7 x8)).trans (congrArg (fun J => impl_divisor.s3 k J x3 x6 x7 x8) (funext fun x3 => funext fun x6 => funext fun x7 => funext fun x8 => impl_divisor.i3 k n x3 x6 x7 x8))
theorem impl_divisor.to6 (k : Nat) (hC : AllFun Try.prog (impl_divisor.c k)) : LoopTo Try.prog 24 (impl_divisor.e6 k) (loopAt (loopAt impl_divisor.bd 0) 0) := loop_to mixed hC (by kernel_rfl) (loops_all 0 (by kernel_rfl) fun i hi => absurd hi (Nat.not_lt_zero i)) fun a b h => ⟨k, (impl_divisor.i6 k k a.1.1 a.1.2.1 a.1.2.2.1 a.1.2.2.2.1 a.1.2.2.2.2.1).trans h⟩
theorem impl_divisor.to3 (k : Nat) (hC : AllFun Try.prog (impl_divisor.c k)) : LoopTo Try.prog 24 (impl_divisor.e3 k) (loopAt impl_divisor.bd 0) := loop_to mixed hC (by kernel_rfl) (loops_all 1 (by kernel_rfl) fun i hi => by obtain rfl : i = 0 := Nat.lt_one_iff.1 hi; exact ⟨impl_divisor.e6 k, by kernel_rfl, impl_divisor.to6 k hC⟩) fun a b h => ⟨k, (impl_divisor.i3 k k a.1.1 a.1.2.1 a.1.2.2.1 a.1.2.2.2.1).trans h⟩
theorem impl_divisor.link (k : Nat) (a0 : List Int) : evFun (mkCx Try.prog (impl_divisor.c k) (impl_divisor.g k) : Cx Int) Try.f143 ((impl_divisor.e k).args.enc (a0, ())) (impl_divisor.e k).ret.dec = impl_divisor.f k a0 := by kernel_rfl
theorem impl_divisor.ok1 (k : Nat) (hC : AllFun Try.prog (impl_divisor.c k)) : Fun Try.prog 143 (impl_divisor.e k).G := fun_ok mixed (body := impl_divisor.bd) Try.func143 (by kernel_rfl) (by kernel_rfl) (by kernel_rfl) hC (loops_all 1 (by kernel_rfl) fun i hi => by obtain rfl : i = 0 := Nat.lt_one_iff.1 hi; exact ⟨impl_divisor.e3 k, by kernel_rfl, impl_divisor.to3 k hC⟩) (impl_divisor.e k) (fun a => Nat.le_of_ble_eq_true (by kernel_rfl)) fun a b h => (impl_divisor.link k a.1).trans h
theorem impl_divisor.ok (k : Nat) : Fun Try.prog 143 (impl_divisor.e k).G := impl_divisor.ok1 k trivial

noncomputable def impl_PlaneOk.f (k : Nat) (a0 : S4) : Option Bool :=
  (impl_isCoef.f k  a0.a).bind fun t1 => if (!t1) = true then (some false) else ((impl_isCoef.f k  a0.b).bind fun t2 => if (!t2) = true then (some false) else ((impl_isCoef.f k  a0.c).bind fun t3 => if (!t3) = true then (some false) else ((impl_isCoef.f k  a0.d).bind fun t4 => if (!t4) = true then (some false) else (if (a0.a != 0) = true then ((impl_divisor.f k  ([a0.a, a0.b, a0.c, a0.d] : List Int)).bind fun t5 => some (t5 == 1)) else (if (a0.b != 0) = true then ((impl_divisor.f k  ([a0.a, a0.b, a0.c, a0.d] : List Int)).bind fun t6 => some (t6 == 1)) else (if (a0.c != 0) = true then ((impl_divisor.f k  ([a0.a, a0.b, a0.c, a0.d] : List Int)).bind fun t7 => some (t7 == 1)) else (some false)))))))
noncomputable def impl_PlaneOk.e (k : Nat) : FE := { α := S4 × Unit, β := Bool, args := (lCons aS4 lNil), ret := (rOne aB), f := fun p => impl_PlaneOk.f k p.1 }
noncomputable def impl_PlaneOk.c (k : Nat) : List (Nat × CE) := [(123, .fn (impl_isCoef.e k)), (143, .fn (impl_divisor.e k))]
noncomputable def impl_PlaneOk.bd : Code := match Try.f87.body with | some c => c | none => .skip
noncomputable def impl_PlaneOk.g (k : Nat) : List (Nat × LE) := []
theorem impl_PlaneOk.link (k : Nat) (a0 : S4) : evFun (mkCx Try.prog (impl_PlaneOk.c k) (impl_PlaneOk.g k) : Cx Bool) Try.f87 ((impl_PlaneOk.e k).args.enc (a0, ())) (impl_PlaneOk.e k).ret.dec = impl_PlaneOk.f k a0 := by kernel_rfl
theorem impl_PlaneOk.ok1 (k : Nat) (hC : AllFun Try.prog (impl_PlaneOk.c k)) : Fun Try.prog 87 (impl_PlaneOk.e k).G := fun_ok mixed (body := impl_PlaneOk.bd) Try.func87 (by kernel_rfl) (by kernel_rfl) (by kernel_rfl) hC (loops_all 0 (by kernel_rfl) fun i hi => absurd hi (Nat.not_lt_zero i)) (impl_PlaneOk.e k) (fun a => Nat.le_of_ble_eq_true (by kernel_rfl)) fun a b h => (impl_PlaneOk.link k a.1).trans h
theorem impl_PlaneOk.ok (k : Nat) : Fun Try.prog 87 (impl_PlaneOk.e k).G := impl_PlaneOk.ok1 k ⟨impl_isCoef.ok k, impl_divisor.ok k, trivial⟩

noncomputable def impl_Leaf.f (k : Nat) (a0 : Bool) : Option Tree :=
  some (Tree.mk a0 ⟨0, 0, 0, 0⟩ ([] : List Tree))
noncomputable def impl_Leaf.e (k : Nat) : FE := { α := Bool × Unit, β := Tree, args := (lCons aB lNil), ret := rSol, f := fun p => impl_Leaf.f k p.1 }
noncomputable def impl_Leaf.c (k : Nat) : List (Nat × CE) := []
noncomputable def impl_Leaf.bd : Code := match Try.f89.body with | some c => c | none => .skip
noncomputable def impl_Leaf.g (k : Nat) : List (Nat × LE) := []
theorem impl_Leaf.link (k : Nat) (a0 : Bool) : evFun (mkCx Try.prog (impl_Leaf.c k) (impl_Leaf.g k) : Cx Tree) Try.f89 ((impl_Leaf.e k).args.enc (a0, ())) (impl_Leaf.e k).ret.dec = impl_Leaf.f k a0 := by kernel_rfl
theorem impl_Leaf.ok1 (k : Nat) (hC : AllFun Try.prog (impl_Leaf.c k)) : Fun Try.prog 89 (impl_Leaf.e k).G := fun_ok mixed (body := impl_Leaf.bd) Try.func89 (by kernel_rfl) (by kernel_rfl) (by kernel_rfl) hC (loops_all 0 (by kernel_rfl) fun i hi => absurd hi (Nat.not_lt_zero i)) (impl_Leaf.e k) (fun a => Nat.le_of_ble_eq_true (by kernel_rfl)) fun a b h => (impl_Leaf.link k a.1).trans h
theorem impl_Leaf.ok (k : Nat) : Fun Try.prog 89 (impl_Leaf.e k).G := impl_Leaf.ok1 k trivial

noncomputable def impl_HalfOf.f (k : Nat) (a0 : S4) : Option (Tree × Bool × Unit) :=
  (impl_PlaneOk.f k  a0).bind fun t1 => if (!t1) = true then (some ((Tree.mk false ⟨0, 0, 0, 0⟩ ([] : List Tree)), false, ())) else ((impl_Leaf.f k  true).bind fun t2 => (impl_Leaf.f k  false).bind fun t3 => some ((Tree.mk false a0 ([(T1 t2), (T1 t3)] : List Tree)), true, ()))
noncomputable def impl_HalfOf.e (k : Nat) : FE := { α := S4 × Unit, β := (Tree × Bool × Unit), args := (lCons aS4 lNil), ret := (rSol2 vB), f := fun p => impl_HalfOf.f k p.1 }
noncomputable def impl_HalfOf.c (k : Nat) : List (Nat × CE) := [(87, .fn (impl_PlaneOk.e k)), (89, .fn (impl_Leaf.e k)), (88, .nd)]
noncomputable def impl_HalfOf.bd : Code := match Try.f18.body with | some c => c | none => .skip
noncomputable def impl_HalfOf.g (k : Nat) : List (Nat × LE) := []
theorem impl_HalfOf.link (k : Nat) (a0 : S4) : evFun (mkCx Try.prog (impl_HalfOf.c k) (impl_HalfOf.g k) : Cx (Tree × Bool × Unit)) Try.f18 ((impl_HalfOf.e k).args.enc (a0, ())) (impl_HalfOf.e k).ret.dec = impl_HalfOf.f k a0 := by kernel_rfl
theorem impl_HalfOf.ok1 (k : Nat) (hC : AllFun Try.prog (impl_HalfOf.c k)) : Fun Try.prog 18 (impl_HalfOf.e k).G := fun_ok mixed (body := impl_HalfOf.bd) Try.func18 (by kernel_rfl) (by kernel_rfl) (by kernel_rfl) hC (loops_all 0 (by kernel_rfl) fun i hi => absurd hi (Nat.not_lt_zero i)) (impl_HalfOf.e k) (fun a => Nat.le_of_ble_eq_true (by kernel_rfl)) fun a b h => (impl_HalfOf.link k a.1).trans h
theorem impl_HalfOf.ok (k : Nat) : Fun Try.prog 18 (impl_HalfOf.e k).G := impl_HalfOf.ok1 k ⟨impl_PlaneOk.ok k, impl_Leaf.ok k, impl_node.ok, trivial⟩

noncomputable def laws_eqPlane.f (k : Nat) (a0 : S4) (a1 : S4) : Option Bool :=
  if (a0.a != a1.a) = true then (some false) else (if (a0.b != a1.b) = true then (some false) else (if (a0.c != a1.c) = true then (some false) else (if (a0.d != a1.d) = true then (some false) else (some true))))
noncomputable def laws_eqPlane.e (k : Nat) : FE := { α := S4 × S4 × Unit, β := Bool, args := (lCons aS4 (lCons aS4 lNil)), ret := (rOne aB), f := fun p => laws_eqPlane.f k p.1 p.2.1 }
noncomputable def laws_eqPlane.c (k : Nat) : List (Nat × CE) := []
noncomputable def laws_eqPlane.bd : Code := match Try.f90.body with | some c => c | none => .skip
noncomputable def laws_eqPlane.g (k : Nat) : List (Nat × LE) := []
theorem laws_eqPlane.link (k : Nat) (a0 : S4) (a1 : S4) : evFun (mkCx Try.prog (laws_eqPlane.c k) (laws_eqPlane.g k) : Cx Bool) Try.f90 ((laws_eqPlane.e k).args.enc (a0, a1, ())) (laws_eqPlane.e k).ret.dec = laws_eqPlane.f k a0 a1 := by kernel_rfl
theorem laws_eqPlane.ok1 (k : Nat) (hC : AllFun Try.prog (laws_eqPlane.c k)) : Fun Try.prog 90 (laws_eqPlane.e k).G := fun_ok mixed (body := laws_eqPlane.bd) Try.func90 (by kernel_rfl) (by kernel_rfl) (by kernel_rfl) hC (loops_all 0 (by kernel_rfl) fun i hi => absurd hi (Nat.not_lt_zero i)) (laws_eqPlane.e k) (fun a => Nat.le_of_ble_eq_true (by kernel_rfl)) fun a b h => (laws_eqPlane.link k a.1 a.2.1).trans h
theorem laws_eqPlane.ok (k : Nat) : Fun Try.prog 90 (laws_eqPlane.e k).G := laws_eqPlane.ok1 k trivial

noncomputable def laws_eqSolidS.H4 : Hd := ⟨[], [0, 1, 5], [], [], []⟩
@[reducible] def laws_eqSolidS.A4 : Type := (((List Tree) × (List Tree) × Int × Unit) × (Unit))
noncomputable def laws_eqSolidS.Z4 : SC laws_eqSolidS.A4 := sC laws_eqSolidS.H4 (eCons 0 (tP (aSl .tree)) (eCons 1 (tP (aSl .tree)) (eCons 5 (tP (aI .i64)) eNil))) bNil
@[reducible] def laws_eqSolidS.B4 : Type := ((Bool × Unit) × (Unit)) ⊕ ((Unit) × (Unit))
noncomputable def laws_eqSolidS.X4 : XC laws_eqSolidS.B4 := xOr (xRet (sC ⟨[], [4], [], [], []⟩ (eCons 4 (tP aB) eNil) bNil)) (xExit 0 (sC ⟨[], [], [], [], []⟩ eNil bNil))
noncomputable def laws_eqSolidS.s4 (k : Nat) (self19 : Tree → Tree → Option Bool) (self91 : (List Tree) → (List Tree) → Option Bool) (J : (List Tree) → (List Tree) → Int → Option laws_eqSolidS.B4) (x0 : List Tree) (x1 : List Tree) (x5 : Int) : Option laws_eqSolidS.B4 :=
  if (decide (x5 < (x0.length : Int))) = true then (if 0 ≤ x5 then (if x5 < (x0.length : Int) then (if 0 ≤ x5 then (if x5 < (x1.length : Int) then ((self19  (T1 (rd x0 x5)) (T1 (rd x1 x5))).bind fun t1 => if (!t1) = true then (some (.inl ((false, ()), (())))) else (J x0 x1 (W (x5 + 1)))) else none) else none) else none) else none) else (some (.inr ((()), (()))))
noncomputable def laws_eqSolidS.l4 (k : Nat) (self19 : Tree → Tree → Option Bool) (self91 : (List Tree) → (List Tree) → Option Bool) : Nat → (List Tree) → (List Tree) → Int → Option laws_eqSolidS.B4
  | 0, _, _, _ => none
  | n + 1, x0, x1, x5 => laws_eqSolidS.s4 k self19 self91 (laws_eqSolidS.l4 k self19 self91 n) x0 x1 x5
noncomputable def laws_eqSolidS.fs (k : Nat) (self19 : Tree → Tree → Option Bool) (self91 : (List Tree) → (List Tree) → Option Bool) (a0 : List Tree) (a1 : List Tree) : Option Bool :=
  if ((a0.length : Int) != (a1.length : Int)) = true then (some false) else ((laws_eqSolidS.l4 k self19 self91 k a0 a1 0).bind fun | .inl r2 => (some r2.1.1) | .inr x3 => (some true))
noncomputable def laws_eqSolid.fs (k : Nat) (self19 : Tree → Tree → Option Bool) (self91 : (List Tree) → (List Tree) → Option Bool) (a0 : Tree) (a1 : Tree) : Option Bool :=
  if (!(a0.inn == a1.inn)) = true then (some false) else ((laws_eqPlane.f k  a0.p a1.p).bind fun t1 => if (!t1) = true then (some false) else ((self91  a0.kids a1.kids).bind fun t2 => if (!t2) = true then (some false) else (some true)))
mutual
noncomputable def laws_eqSolidS.f : Nat → (List Tree) → (List Tree) → Option Bool
  | 0, _, _ => none
  | k + 1, a0, a1 => laws_eqSolidS.fs k (laws_eqSolid.f k) (laws_eqSolidS.f k) a0 a1
noncomputable def laws_eqSolid.f : Nat → Tree → Tree → Option Bool
  | 0, _, _ => none
  | k + 1, a0, a1 => laws_eqSolid.fs k (laws_eqSolid.f k) (laws_eqSolidS.f k) a0 a1
end
theorem laws_eqSolidS.fS (k : Nat) (a0 : List Tree) (a1 : List Tree) : laws_eqSolidS.f (k + 1) a0 a1 = laws_eqSolidS.fs k (laws_eqSolid.f k) (laws_eqSolidS.f k) a0 a1 := by first | rfl | rw [laws_eqSolidS.f]
theorem laws_eqSolid.fS (k : Nat) (a0 : Tree) (a1 : Tree) : laws_eqSolid.f (k + 1) a0 a1 = laws_eqSolid.fs k (laws_eqSolid.f k) (laws_eqSolidS.f k) a0 a1 := by first | rfl | rw [laws_eqSolid.f]
noncomputable def laws_eqSolidS.e (k : Nat) : FE := { α := (List Tree) × (List Tree) × Unit, β := Bool, args := (lCons (aSl .tree) (lCons (aSl .tree) lNil)), ret := (rOne aB), f := fun p => laws_eqSolidS.f k p.1 p.2.1 }
noncomputable def laws_eqSolid.e (k : Nat) : FE := { α := Tree × Tree × Unit, β := Bool, args := (lCons aTree (lCons aTree lNil)), ret := (rOne aB), f := fun p => laws_eqSolid.f k p.1 p.2.1 }
noncomputable def laws_eqSolidS.c (k : Nat) : List (Nat × CE) := [(19, .fn (laws_eqSolid.e k))]
noncomputable def laws_eqSolidS.bd : Code := match Try.f91.body with | some c => c | none => .skip
noncomputable def laws_eqSolidS.e4 (k : Nat) : LE := { H := laws_eqSolidS.H4, α := laws_eqSolidS.A4, β := laws_eqSolidS.B4, st := laws_eqSolidS.Z4, xt := laws_eqSolidS.X4, f := fun p => laws_eqSolidS.l4 k (laws_eqSolid.f k) (laws_eqSolidS.f k) k p.1.1 p.1.2.1 p.1.2.2.1 }
noncomputable def laws_eqSolidS.g (k : Nat) : List (Nat × LE) := [(4, laws_eqSolidS.e4 k)]
theorem laws_eqSolidS.t4 (k : Nat) (I : S2 → Option laws_eqSolidS.B4) (x0 : List Tree) (x1 : List Tree) (x5 : Int) : stepOf (mkCx Try.prog (laws_eqSolidS.c k) (laws_eqSolidS.g k) : Cx laws_eqSolidS.B4) (loopAt laws_eqSolidS.bd 0) laws_eqSolidS.H4 laws_eqSolidS.X4.dec I (laws_eqSolidS.Z4.enc ((x0, x1, x5, ()), (()))) = laws_eqSolidS.s4 k (laws_eqSolid.f k) (laws_eqSolidS.f k) (fun x0 x1 x5 => I (laws_eqSolidS.Z4.enc ((x0, x1, x5, ()), (())))) x0 x1 x5 := by kernel_rfl
theorem laws_eqSolidS.i4 (k : Nat) : ∀ (n : Nat) (x0 : List Tree) (x1 : List Tree) (x5 : Int), iter (evCode (mkCx Try.prog (laws_eqSolidS.c k) (laws_eqSolidS.g k) : Cx laws_eqSolidS.B4) (loopAt laws_eqSolidS.bd 0)) laws_eqSolidS.H4 laws_eqSolidS.X4.dec n (laws_eqSolidS.Z4.enc ((x0, x1, x5, ()), (()))) = laws_eqSolidS.l4 k (laws_eqSolid.f k) (laws_eqSolidS.f k) n x0 x1 x5
  | 0, _, _, _ => rfl
  | n + 1, x0, x1, x5 => ((iter_step _ _ _ _ n _).trans (laws_eqSolidS.t4 k _ x0 x1 x5)).trans (congrArg (fun J => laws_eqSolidS.s4 k (laws_eqSolid.f k) (laws_eqSolidS.f k) J x0 x1 x5) (funext fun x0 => funext fun x1 => funext fun x5 => laws_eqSolidS.i4 k n x0 x1 x5))
theorem laws_eqSolidS.to4 (k : Nat) (hC : AllFun Try.prog (laws_eqSolidS.c k)) : LoopTo Try.prog 27 (laws_eqSolidS.e4 k) (loopAt laws_eqSolidS.bd 0) := loop_to mixed hC (by kernel_rfl) (loops_all 0 (by kernel_rfl) fun i hi => absurd hi (Nat.not_lt_zero i)) fun a b h => ⟨k, (laws_eqSolidS.i4 k k a.1.1 a.1.2.1 a.1.2.2.1).trans h⟩
theorem laws_eqSolidS.link (k : Nat) (a0 : List Tree) (a1 : List Tree) : evFun (mkCx Try.prog (laws_eqSolidS.c k) (laws_eqSolidS.g k) : Cx Bool) Try.f91 ((laws_eqSolidS.e (k + 1)).args.enc (a0, a1, ())) (laws_eqSolidS.e (k + 1)).ret.dec = laws_eqSolidS.fs k (laws_eqSolid.f k) (laws_eqSolidS.f k) a0 a1 := by kernel_rfl
theorem laws_eqSolidS.ok1 (k : Nat) (hC : AllFun Try.prog (laws_eqSolidS.c k)) : Fun Try.prog 91 (laws_eqSolidS.e (k + 1)).G := fun_ok mixed (body := laws_eqSolidS.bd) Try.func91 (by kernel_rfl) (by kernel_rfl) (by kernel_rfl) hC (loops_all 1 (by kernel_rfl) fun i hi => by obtain rfl : i = 0 := Nat.lt_one_iff.1 hi; exact ⟨laws_eqSolidS.e4 k, by kernel_rfl, laws_eqSolidS.to4 k hC⟩) (laws_eqSolidS.e (k + 1)) (fun a => Nat.le_of_ble_eq_true (by kernel_rfl)) fun a b h => (laws_eqSolidS.link k a.1 a.2.1).trans ((laws_eqSolidS.fS k a.1 a.2.1).symm.trans h)
noncomputable def laws_eqSolid.c (k : Nat) : List (Nat × CE) := [(90, .fn (laws_eqPlane.e k)), (91, .fn (laws_eqSolidS.e k))]
noncomputable def laws_eqSolid.bd : Code := match Try.f19.body with | some c => c | none => .skip
noncomputable def laws_eqSolid.g (k : Nat) : List (Nat × LE) := []
theorem laws_eqSolid.link (k : Nat) (a0 : Tree) (a1 : Tree) : evFun (mkCx Try.prog (laws_eqSolid.c k) (laws_eqSolid.g k) : Cx Bool) Try.f19 ((laws_eqSolid.e (k + 1)).args.enc (a0, a1, ())) (laws_eqSolid.e (k + 1)).ret.dec = laws_eqSolid.fs k (laws_eqSolid.f k) (laws_eqSolidS.f k) a0 a1 := by kernel_rfl
theorem laws_eqSolid.ok1 (k : Nat) (hC : AllFun Try.prog (laws_eqSolid.c k)) : Fun Try.prog 19 (laws_eqSolid.e (k + 1)).G := fun_ok mixed (body := laws_eqSolid.bd) Try.func19 (by kernel_rfl) (by kernel_rfl) (by kernel_rfl) hC (loops_all 0 (by kernel_rfl) fun i hi => absurd hi (Nat.not_lt_zero i)) (laws_eqSolid.e (k + 1)) (fun a => Nat.le_of_ble_eq_true (by kernel_rfl)) fun a b h => (laws_eqSolid.link k a.1 a.2.1).trans ((laws_eqSolid.fS k a.1 a.2.1).symm.trans h)
theorem laws_eqSolidS.okk : ∀ k, Fun Try.prog 91 (laws_eqSolidS.e k).G ∧ Fun Try.prog 19 (laws_eqSolid.e k).G
  | 0 => ⟨fun_zero (by kernel_rfl) fun _ => rfl, fun_zero (by kernel_rfl) fun _ => rfl⟩
  | k + 1 => have h := laws_eqSolidS.okk k; ⟨laws_eqSolidS.ok1 k ⟨h.2, trivial⟩, laws_eqSolid.ok1 k ⟨laws_eqPlane.ok k, h.1, trivial⟩⟩
theorem laws_eqSolidS.ok (k : Nat) : Fun Try.prog 91 (laws_eqSolidS.e k).G := (laws_eqSolidS.okk k).1
theorem laws_eqSolid.ok (k : Nat) : Fun Try.prog 19 (laws_eqSolid.e k).G := (laws_eqSolidS.okk k).2

noncomputable def laws_heldSolidS.H2 : Hd := ⟨[], [0, 1, 5], [], [], []⟩
@[reducible] def laws_heldSolidS.A2 : Type := (((List Tree) × Int × Int × Unit) × (Unit))
noncomputable def laws_heldSolidS.Z2 : SC laws_heldSolidS.A2 := sC laws_heldSolidS.H2 (eCons 0 (tP (aSl .tree)) (eCons 1 (tP (aI .i64)) (eCons 5 (tP (aI .i64)) eNil))) bNil
@[reducible] def laws_heldSolidS.B2 : Type := ((Int × Unit) × (Unit)) ⊕ ((Int × Unit) × (Unit))
noncomputable def laws_heldSolidS.X2 : XC laws_heldSolidS.B2 := xOr (xRet (sC ⟨[], [4], [], [], []⟩ (eCons 4 (tP (aI .i64)) eNil) bNil)) (xExit 0 (sC ⟨[], [1], [], [], []⟩ (eCons 1 (tP (aI .i64)) eNil) bNil))
noncomputable def laws_heldSolidS.s2 (k : Nat) (self93 : (List Tree) → Int → Option Int) (J : (List Tree) → Int → Int → Option laws_heldSolidS.B2) (x0 : List Tree) (x1 : Int) (x5 : Int) : Option laws_heldSolidS.B2 :=
  if (decide (x5 < (x0.length : Int))) = true then (if 0 ≤ x5 then (if x5 < (x0.length : Int) then (if 3 = 0 then none else (if (!((rd x0 x5).inn == ((x1.tmod 3) == 0))) = true then (some (.inl (((-1), ()), (())))) else (if 0 ≤ x5 then (if x5 < (x0.length : Int) then (if ((rd x0 x5).p.a != (W (x1 + 1))) = true then (some (.inl (((-1), ()), (())))) else (if 0 ≤ x5 then (if x5 < (x0.length : Int) then (if ((rd x0 x5).p.b != (W ((W (x1 + 1)) + 1))) = true then (some (.inl (((-1), ()), (())))) else (if 0 ≤ x5 then (if x5 < (x0.length : Int) then (if ((rd x0 x5).p.c != (W ((W ((W (x1 + 1)) + 1)) + 1))) = true then (some (.inl (((-1), ()), (())))) else (if 0 ≤ x5 then (if x5 < (x0.length : Int) then (if ((rd x0 x5).p.d != (W ((W ((W ((W (x1 + 1)) + 1)) + 1)) + 1))) = true then (some (.inl (((-1), ()), (())))) else (if 0 ≤ x5 then (if x5 < (x0.length : Int) then ((self93  ((rd x0 x5).kids) (W ((W ((W ((W ((W (x1 + 1)) + 1)) + 1)) + 1)) + 1))).bind fun t1 => if (decide (t1 < 0)) = true then (some (.inl (((-1), ()), (())))) else (J x0 t1 (W (x5 + 1)))) else none) else none)) else none) else none)) else none) else none)) else none) else none)) else none) else none))) else none) else none) else (some (.inr ((x1, ()), (()))))
noncomputable def laws_heldSolidS.l2 (k : Nat) (self93 : (List Tree) → Int → Option Int) : Nat → (List Tree) → Int → Int → Option laws_heldSolidS.B2
  | 0, _, _, _ => none
  | n + 1, x0, x1, x5 => laws_heldSolidS.s2 k self93 (laws_heldSolidS.l2 k self93 n) x0 x1 x5
noncomputable def laws_heldSolidS.fs (k : Nat) (self93 : (List Tree) → Int → Option Int) (a0 : List Tree) (a1 : Int) : Option Int :=
  (laws_heldSolidS.l2 k self93 k a0 a1 0).bind fun | .inl r2 => (some r2.1.1) | .inr x3 => (some x3.1.1)
noncomputable def laws_heldSolidS.f : Nat → (List Tree) → Int → Option Int
  | 0, _, _ => none
  | k + 1, a0, a1 => laws_heldSolidS.fs k (laws_heldSolidS.f k) a0 a1
theorem laws_heldSolidS.fS (k : Nat) (a0 : List Tree) (a1 : Int) : laws_heldSolidS.f (k + 1) a0 a1 = laws_heldSolidS.fs k (laws_heldSolidS.f k) a0 a1 := by first | rfl | rw [laws_heldSolidS.f]
noncomputable def laws_heldSolidS.e (k : Nat) : FE := { α := (List Tree) × Int × Unit, β := Int, args := (lCons (aSl .tree) (lCons (aI .i64) lNil)), ret := (rOne (aI .i64)), f := fun p => laws_heldSolidS.f k p.1 p.2.1 }
noncomputable def laws_heldSolidS.c (k : Nat) : List (Nat × CE) := [(93, .fn (laws_heldSolidS.e k))]
noncomputable def laws_heldSolidS.bd : Code := match Try.f93.body with | some c => c | none => .skip
noncomputable def laws_heldSolidS.e2 (k : Nat) : LE := { H := laws_heldSolidS.H2, α := laws_heldSolidS.A2, β := laws_heldSolidS.B2, st := laws_heldSolidS.Z2, xt := laws_heldSolidS.X2, f := fun p => laws_heldSolidS.l2 k (laws_heldSolidS.f k) k p.1.1 p.1.2.1 p.1.2.2.1 }
noncomputable def laws_heldSolidS.g (k : Nat) : List (Nat × LE) := [(2, laws_heldSolidS.e2 k)]
theorem laws_heldSolidS.t2 (k : Nat) (I : S2 → Option laws_heldSolidS.B2) (x0 : List Tree) (x1 : Int) (x5 : Int) : stepOf (mkCx Try.prog (laws_heldSolidS.c k) (laws_heldSolidS.g k) : Cx laws_heldSolidS.B2) (loopAt laws_heldSolidS.bd 0) laws_heldSolidS.H2 laws_heldSolidS.X2.dec I (laws_heldSolidS.Z2.enc ((x0, x1, x5, ()), (()))) = laws_heldSolidS.s2 k (laws_heldSolidS.f k) (fun x0 x1 x5 => I (laws_heldSolidS.Z2.enc ((x0, x1, x5, ()), (())))) x0 x1 x5 := by kernel_rfl
theorem laws_heldSolidS.i2 (k : Nat) : ∀ (n : Nat) (x0 : List Tree) (x1 : Int) (x5 : Int), iter (evCode (mkCx Try.prog (laws_heldSolidS.c k) (laws_heldSolidS.g k) : Cx laws_heldSolidS.B2) (loopAt laws_heldSolidS.bd 0)) laws_heldSolidS.H2 laws_heldSolidS.X2.dec n (laws_heldSolidS.Z2.enc ((x0, x1, x5, ()), (()))) = laws_heldSolidS.l2 k (laws_heldSolidS.f k) n x0 x1 x5
  | 0, _, _, _ => rfl
  | n + 1, x0, x1, x5 => ((iter_step _ _ _ _ n _).trans (laws_heldSolidS.t2 k _ x0 x1 x5)).trans (congrArg (fun J => laws_heldSolidS.s2 k (laws_heldSolidS.f k) J x0 x1 x5) (funext fun x0 => funext fun x1 => funext fun x5 => laws_heldSolidS.i2 k n x0 x1 x5))
theorem laws_heldSolidS.to2 (k : Nat) (hC : AllFun Try.prog (laws_heldSolidS.c k)) : LoopTo Try.prog 73 (laws_heldSolidS.e2 k) (loopAt laws_heldSolidS.bd 0) := loop_to mixed hC (by kernel_rfl) (loops_all 0 (by kernel_rfl) fun i hi => absurd hi (Nat.not_lt_zero i)) fun a b h => ⟨k, (laws_heldSolidS.i2 k k a.1.1 a.1.2.1 a.1.2.2.1).trans h⟩
theorem laws_heldSolidS.link (k : Nat) (a0 : List Tree) (a1 : Int) : evFun (mkCx Try.prog (laws_heldSolidS.c k) (laws_heldSolidS.g k) : Cx Int) Try.f93 ((laws_heldSolidS.e (k + 1)).args.enc (a0, a1, ())) (laws_heldSolidS.e (k + 1)).ret.dec = laws_heldSolidS.fs k (laws_heldSolidS.f k) a0 a1 := by kernel_rfl
theorem laws_heldSolidS.ok1 (k : Nat) (hC : AllFun Try.prog (laws_heldSolidS.c k)) : Fun Try.prog 93 (laws_heldSolidS.e (k + 1)).G := fun_ok mixed (body := laws_heldSolidS.bd) Try.func93 (by kernel_rfl) (by kernel_rfl) (by kernel_rfl) hC (loops_all 1 (by kernel_rfl) fun i hi => by obtain rfl : i = 0 := Nat.lt_one_iff.1 hi; exact ⟨laws_heldSolidS.e2 k, by kernel_rfl, laws_heldSolidS.to2 k hC⟩) (laws_heldSolidS.e (k + 1)) (fun a => Nat.le_of_ble_eq_true (by kernel_rfl)) fun a b h => (laws_heldSolidS.link k a.1 a.2.1).trans ((laws_heldSolidS.fS k a.1 a.2.1).symm.trans h)
theorem laws_heldSolidS.ok : ∀ k, Fun Try.prog 93 (laws_heldSolidS.e k).G
  | 0 => fun_zero (by kernel_rfl) fun _ => rfl
  | k + 1 => laws_heldSolidS.ok1 k ⟨laws_heldSolidS.ok k, trivial⟩

noncomputable def laws_heldSolid.f (k : Nat) (a0 : Tree) (a1 : Int) : Option Int :=
  (laws_heldSolidS.f k  a0.kids a1).bind fun t1 => if (decide (t1 < 0)) = true then (some (-1)) else (some t1)
noncomputable def laws_heldSolid.e (k : Nat) : FE := { α := Tree × Int × Unit, β := Int, args := (lCons aTree (lCons (aI .i64) lNil)), ret := (rOne (aI .i64)), f := fun p => laws_heldSolid.f k p.1 p.2.1 }
noncomputable def laws_heldSolid.c (k : Nat) : List (Nat × CE) := [(93, .fn (laws_heldSolidS.e k))]
noncomputable def laws_heldSolid.bd : Code := match Try.f21.body with | some c => c | none => .skip
noncomputable def laws_heldSolid.g (k : Nat) : List (Nat × LE) := []
theorem laws_heldSolid.link (k : Nat) (a0 : Tree) (a1 : Int) : evFun (mkCx Try.prog (laws_heldSolid.c k) (laws_heldSolid.g k) : Cx Int) Try.f21 ((laws_heldSolid.e k).args.enc (a0, a1, ())) (laws_heldSolid.e k).ret.dec = laws_heldSolid.f k a0 a1 := by kernel_rfl
theorem laws_heldSolid.ok1 (k : Nat) (hC : AllFun Try.prog (laws_heldSolid.c k)) : Fun Try.prog 21 (laws_heldSolid.e k).G := fun_ok mixed (body := laws_heldSolid.bd) Try.func21 (by kernel_rfl) (by kernel_rfl) (by kernel_rfl) hC (loops_all 0 (by kernel_rfl) fun i hi => absurd hi (Nat.not_lt_zero i)) (laws_heldSolid.e k) (fun a => Nat.le_of_ble_eq_true (by kernel_rfl)) fun a b h => (laws_heldSolid.link k a.1 a.2.1).trans h
theorem laws_heldSolid.ok (k : Nat) : Fun Try.prog 21 (laws_heldSolid.e k).G := laws_heldSolid.ok1 k ⟨laws_heldSolidS.ok k, trivial⟩

noncomputable def laws_FnExactHalfOf.f (k : Nat) (a0 : S4) : Option Bool :=
  (laws_toPlane.f k  a0).bind fun t1 => (spec_HalfOf.f k  t1).bind fun t2 => (laws_toPlane.f k  a0).bind fun t3 => (impl_HalfOf.f k  t3).bind fun t4 => (laws_eqSolid.f k  (T1 t4.1) (T1 t2.1)).bind fun t5 => if (!t5) = true then (some false) else (if (!(t4.2.1 == t2.2.1)) = true then (some false) else ((laws_markSolid.f k  t4.1.kids 1).bind fun t6 => (laws_heldSolid.f k  (Tree.mk t4.1.inn t4.1.p t6.2) 1).bind fun t7 => if (decide (t7 < 0)) = true then (some false) else (if (t7 != t6.1) = true then (some false) else ((laws_toPlane.f k  a0).bind fun t8 => (impl_HalfOf.f k  t8).bind fun t9 => (laws_eqSolid.f k  (T1 t9.1) (T1 t2.1)).bind fun t10 => if (!t10) = true then (some false) else (if (!(t9.2.1 == t2.2.1)) = true then (some false) else ((laws_heldSolid.f k  (Tree.mk t4.1.inn t4.1.p t6.2) 1).bind fun t11 => if (decide (t11 < 0)) = true then (some false) else (if (t11 != t6.1) = true then (some false) else (some true))))))))
noncomputable def laws_FnExactHalfOf.e (k : Nat) : FE := { α := S4 × Unit, β := Bool, args := (lCons aS4 lNil), ret := (rOne aB), f := fun p => laws_FnExactHalfOf.f k p.1 }
noncomputable def laws_FnExactHalfOf.c (k : Nat) : List (Nat × CE) := [(17, .fn (laws_toPlane.e k)), (16, .fn (spec_HalfOf.e k)), (18, .fn (impl_HalfOf.e k)), (19, .fn (laws_eqSolid.e k)), (20, .gv (laws_markSolid.e k)), (21, .fn (laws_heldSolid.e k))]
noncomputable def laws_FnExactHalfOf.bd : Code := match Try.f3.body with | some c => c | none => .skip
noncomputable def laws_FnExactHalfOf.g (k : Nat) : List (Nat × LE) := []
theorem laws_FnExactHalfOf.link (k : Nat) (a0 : S4) : evFun (mkCx Try.prog (laws_FnExactHalfOf.c k) (laws_FnExactHalfOf.g k) : Cx Bool) Try.f3 ((laws_FnExactHalfOf.e k).args.enc (a0, ())) (laws_FnExactHalfOf.e k).ret.dec = laws_FnExactHalfOf.f k a0 := by kernel_rfl
theorem laws_FnExactHalfOf.ok1 (k : Nat) (hC : AllFun Try.prog (laws_FnExactHalfOf.c k)) : Fun Try.prog 3 (laws_FnExactHalfOf.e k).G := fun_ok mixed (body := laws_FnExactHalfOf.bd) Try.func3 (by kernel_rfl) (by kernel_rfl) (by kernel_rfl) hC (loops_all 0 (by kernel_rfl) fun i hi => absurd hi (Nat.not_lt_zero i)) (laws_FnExactHalfOf.e k) (fun a => Nat.le_of_ble_eq_true (by kernel_rfl)) fun a b h => (laws_FnExactHalfOf.link k a.1).trans h
theorem laws_FnExactHalfOf.ok (k : Nat) : Fun Try.prog 3 (laws_FnExactHalfOf.e k).G := laws_FnExactHalfOf.ok1 k ⟨laws_toPlane.ok k, spec_HalfOf.ok k, impl_HalfOf.ok k, laws_eqSolid.ok k, laws_markSolid.ok k, laws_heldSolid.ok k, trivial⟩

noncomputable def laws_szPlaneS.f (k : Nat) (a0 : List S4) (a1 : Int) : Option Int :=
  if (decide ((W (a1 - (a0.length : Int))) < 0)) = true then (some (-1)) else (some (W (a1 - (a0.length : Int))))
noncomputable def laws_szPlaneS.e (k : Nat) : FE := { α := (List S4) × Int × Unit, β := Int, args := (lCons (aSl .s4) (lCons (aI .i64) lNil)), ret := (rOne (aI .i64)), f := fun p => laws_szPlaneS.f k p.1 p.2.1 }
noncomputable def laws_szPlaneS.c (k : Nat) : List (Nat × CE) := []
noncomputable def laws_szPlaneS.bd : Code := match Try.f22.body with | some c => c | none => .skip
noncomputable def laws_szPlaneS.g (k : Nat) : List (Nat × LE) := []
theorem laws_szPlaneS.link (k : Nat) (a0 : List S4) (a1 : Int) : evFun (mkCx Try.prog (laws_szPlaneS.c k) (laws_szPlaneS.g k) : Cx Int) Try.f22 ((laws_szPlaneS.e k).args.enc (a0, a1, ())) (laws_szPlaneS.e k).ret.dec = laws_szPlaneS.f k a0 a1 := by kernel_rfl
theorem laws_szPlaneS.ok1 (k : Nat) (hC : AllFun Try.prog (laws_szPlaneS.c k)) : Fun Try.prog 22 (laws_szPlaneS.e k).G := fun_ok mixed (body := laws_szPlaneS.bd) Try.func22 (by kernel_rfl) (by kernel_rfl) (by kernel_rfl) hC (loops_all 0 (by kernel_rfl) fun i hi => absurd hi (Nat.not_lt_zero i)) (laws_szPlaneS.e k) (fun a => Nat.le_of_ble_eq_true (by kernel_rfl)) fun a b h => (laws_szPlaneS.link k a.1 a.2.1).trans h
theorem laws_szPlaneS.ok (k : Nat) : Fun Try.prog 22 (laws_szPlaneS.e k).G := laws_szPlaneS.ok1 k trivial

noncomputable def spec_l6Right.H2 : Hd := ⟨[], [0, 3], [], [], []⟩
@[reducible] def spec_l6Right.A2 : Type := (((List S4) × Int × Unit) × (Unit))
noncomputable def spec_l6Right.Z2 : SC spec_l6Right.A2 := sC spec_l6Right.H2 (eCons 0 (tP (aSl .s4)) (eCons 3 (tP (aI .i64)) eNil)) bNil
@[reducible] def spec_l6Right.B2 : Type := ((Bool × Unit) × (Unit)) ⊕ (((List S4) × Unit) × (Unit))
noncomputable def spec_l6Right.X2 : XC spec_l6Right.B2 := xOr (xRet (sC ⟨[], [2], [], [], []⟩ (eCons 2 (tP aB) eNil) bNil)) (xExit 0 (sC ⟨[], [0], [], [], []⟩ (eCons 0 (tP (aSl .s4)) eNil) bNil))
noncomputable def spec_l6Right.s2 (k : Nat)  (J : (List S4) → Int → Option spec_l6Right.B2) (x0 : List S4) (x3 : Int) : Option spec_l6Right.B2 :=
  if (decide (x3 < (x0.length : Int))) = true then (if 0 ≤ x3 then (if x3 < (x0.length : Int) then ((spec_PlaneOk.f k  (rd x0 x3)).bind fun t1 => if (!t1) = true then (some (.inl ((false, ()), (())))) else (J x0 (W (x3 + 1)))) else none) else none) else (some (.inr ((x0, ()), (()))))
noncomputable def spec_l6Right.l2 (k : Nat)  : Nat → (List S4) → Int → Option spec_l6Right.B2
  | 0, _, _ => none
  | n + 1, x0, x3 => spec_l6Right.s2 k (spec_l6Right.l2 k n) x0 x3
noncomputable def spec_l6Right.f (k : Nat) (a0 : List S4) : Option Bool :=
  (spec_l6Right.l2 k k a0 0).bind fun | .inl r2 => (some r2.1.1) | .inr x3 => (some (decide ((x3.1.1.length : Int) ≤ 24)))
noncomputable def spec_l6Right.e (k : Nat) : FE := { α := (List S4) × Unit, β := Bool, args := (lCons (aSl .s4) lNil), ret := (rOne aB), f := fun p => spec_l6Right.f k p.1 }
noncomputable def spec_l6Right.c (k : Nat) : List (Nat × CE) := [(67, .fn (spec_PlaneOk.e k))]
noncomputable def spec_l6Right.bd : Code := match Try.f94.body with | some c => c | none => .skip
noncomputable def spec_l6Right.e2 (k : Nat) : LE := { H := spec_l6Right.H2, α := spec_l6Right.A2, β := spec_l6Right.B2, st := spec_l6Right.Z2, xt := spec_l6Right.X2, f := fun p => spec_l6Right.l2 k k p.1.1 p.1.2.1 }
noncomputable def spec_l6Right.g (k : Nat) : List (Nat × LE) := [(2, spec_l6Right.e2 k)]
theorem spec_l6Right.t2 (k : Nat) (I : S2 → Option spec_l6Right.B2) (x0 : List S4) (x3 : Int) : stepOf (mkCx Try.prog (spec_l6Right.c k) (spec_l6Right.g k) : Cx spec_l6Right.B2) (loopAt spec_l6Right.bd 0) spec_l6Right.H2 spec_l6Right.X2.dec I (spec_l6Right.Z2.enc ((x0, x3, ()), (()))) = spec_l6Right.s2 k (fun x0 x3 => I (spec_l6Right.Z2.enc ((x0, x3, ()), (())))) x0 x3 := by kernel_rfl
theorem spec_l6Right.i2 (k : Nat) : ∀ (n : Nat) (x0 : List S4) (x3 : Int), iter (evCode (mkCx Try.prog (spec_l6Right.c k) (spec_l6Right.g k) : Cx spec_l6Right.B2) (loopAt spec_l6Right.bd 0)) spec_l6Right.H2 spec_l6Right.X2.dec n (spec_l6Right.Z2.enc ((x0, x3, ()), (()))) = spec_l6Right.l2 k n x0 x3
  | 0, _, _ => rfl
  | n + 1, x0, x3 => ((iter_step _ _ _ _ n _).trans (spec_l6Right.t2 k _ x0 x3)).trans (congrArg (fun J => spec_l6Right.s2 k J x0 x3) (funext fun x0 => funext fun x3 => spec_l6Right.i2 k n x0 x3))
theorem spec_l6Right.to2 (k : Nat) (hC : AllFun Try.prog (spec_l6Right.c k)) : LoopTo Try.prog 19 (spec_l6Right.e2 k) (loopAt spec_l6Right.bd 0) := loop_to mixed hC (by kernel_rfl) (loops_all 0 (by kernel_rfl) fun i hi => absurd hi (Nat.not_lt_zero i)) fun a b h => ⟨k, (spec_l6Right.i2 k k a.1.1 a.1.2.1).trans h⟩
theorem spec_l6Right.link (k : Nat) (a0 : List S4) : evFun (mkCx Try.prog (spec_l6Right.c k) (spec_l6Right.g k) : Cx Bool) Try.f94 ((spec_l6Right.e k).args.enc (a0, ())) (spec_l6Right.e k).ret.dec = spec_l6Right.f k a0 := by kernel_rfl
theorem spec_l6Right.ok1 (k : Nat) (hC : AllFun Try.prog (spec_l6Right.c k)) : Fun Try.prog 94 (spec_l6Right.e k).G := fun_ok mixed (body := spec_l6Right.bd) Try.func94 (by kernel_rfl) (by kernel_rfl) (by kernel_rfl) hC (loops_all 1 (by kernel_rfl) fun i hi => by obtain rfl : i = 0 := Nat.lt_one_iff.1 hi; exact ⟨spec_l6Right.e2 k, by kernel_rfl, spec_l6Right.to2 k hC⟩) (spec_l6Right.e k) (fun a => Nat.le_of_ble_eq_true (by kernel_rfl)) fun a b h => (spec_l6Right.link k a.1).trans h
theorem spec_l6Right.ok (k : Nat) : Fun Try.prog 94 (spec_l6Right.e k).G := spec_l6Right.ok1 k ⟨spec_PlaneOk.ok k, trivial⟩

noncomputable def spec_l4Cross.f (k : Nat) (a0 : S4) (a1 : S4) : Option S3 :=
  some (⟨(W ((W (a0.b * a1.c)) - (W (a0.c * a1.b)))), (W ((W (a0.c * a1.a)) - (W (a0.a * a1.c)))), (W ((W (a0.a * a1.b)) - (W (a0.b * a1.a))))⟩ : S3)
noncomputable def spec_l4Cross.e (k : Nat) : FE := { α := S4 × S4 × Unit, β := S3, args := (lCons aS4 (lCons aS4 lNil)), ret := (rOne aS3), f := fun p => spec_l4Cross.f k p.1 p.2.1 }
noncomputable def spec_l4Cross.c (k : Nat) : List (Nat × CE) := []
noncomputable def spec_l4Cross.bd : Code := match Try.f193.body with | some c => c | none => .skip
noncomputable def spec_l4Cross.g (k : Nat) : List (Nat × LE) := []
theorem spec_l4Cross.link (k : Nat) (a0 : S4) (a1 : S4) : evFun (mkCx Try.prog (spec_l4Cross.c k) (spec_l4Cross.g k) : Cx S3) Try.f193 ((spec_l4Cross.e k).args.enc (a0, a1, ())) (spec_l4Cross.e k).ret.dec = spec_l4Cross.f k a0 a1 := by kernel_rfl
theorem spec_l4Cross.ok1 (k : Nat) (hC : AllFun Try.prog (spec_l4Cross.c k)) : Fun Try.prog 193 (spec_l4Cross.e k).G := fun_ok mixed (body := spec_l4Cross.bd) Try.func193 (by kernel_rfl) (by kernel_rfl) (by kernel_rfl) hC (loops_all 0 (by kernel_rfl) fun i hi => absurd hi (Nat.not_lt_zero i)) (spec_l4Cross.e k) (fun a => Nat.le_of_ble_eq_true (by kernel_rfl)) fun a b h => (spec_l4Cross.link k a.1 a.2.1).trans h
theorem spec_l4Cross.ok (k : Nat) : Fun Try.prog 193 (spec_l4Cross.e k).G := spec_l4Cross.ok1 k trivial

noncomputable def spec_l3Sign.f (k : Nat) (a0 : Int) : Option Int :=
  if (decide (a0 > 0)) = true then (some 1) else (if (decide (a0 < 0)) = true then (some (-1)) else (some 0))
noncomputable def spec_l3Sign.e (k : Nat) : FE := { α := Int × Unit, β := Int, args := (lCons (aI .i64) lNil), ret := (rOne (aI .i64)), f := fun p => spec_l3Sign.f k p.1 }
noncomputable def spec_l3Sign.c (k : Nat) : List (Nat × CE) := []
noncomputable def spec_l3Sign.bd : Code := match Try.f204.body with | some c => c | none => .skip
noncomputable def spec_l3Sign.g (k : Nat) : List (Nat × LE) := []
theorem spec_l3Sign.link (k : Nat) (a0 : Int) : evFun (mkCx Try.prog (spec_l3Sign.c k) (spec_l3Sign.g k) : Cx Int) Try.f204 ((spec_l3Sign.e k).args.enc (a0, ())) (spec_l3Sign.e k).ret.dec = spec_l3Sign.f k a0 := by kernel_rfl
theorem spec_l3Sign.ok1 (k : Nat) (hC : AllFun Try.prog (spec_l3Sign.c k)) : Fun Try.prog 204 (spec_l3Sign.e k).G := fun_ok mixed (body := spec_l3Sign.bd) Try.func204 (by kernel_rfl) (by kernel_rfl) (by kernel_rfl) hC (loops_all 0 (by kernel_rfl) fun i hi => absurd hi (Nat.not_lt_zero i)) (spec_l3Sign.e k) (fun a => Nat.le_of_ble_eq_true (by kernel_rfl)) fun a b h => (spec_l3Sign.link k a.1).trans h
theorem spec_l3Sign.ok (k : Nat) : Fun Try.prog 204 (spec_l3Sign.e k).G := spec_l3Sign.ok1 k trivial

end Go.Proofs.Ytlkcpldohlemcaa.G
