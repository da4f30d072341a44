/- Go functions told as plain Lean functions; that the code does what these tell. Printed by a program of the session (evp.py). -/
import Derived.Test.YtalkkenkeilmpaaDoorEv16
import Derived.Test.YtalkkenkeilmpaaDoorLb
namespace Go.Proofs.YtalkkenkeilmpaaDoor.G
open Go Go.RowKit Go.Proofs Go.Proofs.YtalkkenkeilmpaaDoor.Ev
set_option linter.unusedVariables false
set_option maxRecDepth 100000

noncomputable def spec_l1In.f (k : Nat) (a0 : Int) (a1 : Int) (a2 : Int) : Option Bool :=
  if (decide (a0 ≥ a1)) = true then (some (decide (a0 ≤ a2))) else (some false)
noncomputable def spec_l1In.e (k : Nat) : FE := { α := Int × Int × Int × Unit, β := Bool, args := (lCons (aI .i64) (lCons (aI .i64) (lCons (aI .i64) lNil))), ret := (rOne aB), f := fun p => spec_l1In.f k p.1 p.2.1 p.2.2.1 }
noncomputable def spec_l1In.c (k : Nat) : List (Nat × CE) := []
noncomputable def spec_l1In.bd : Code := match Tryd.f26.body with | some c => c | none => .skip
noncomputable def spec_l1In.g (k : Nat) : List (Nat × LE) := []
theorem spec_l1In.link (k : Nat) (a0 : Int) (a1 : Int) (a2 : Int) : evFun (mkCx Tryd.prog (spec_l1In.c k) (spec_l1In.g k) : Cx Bool) Tryd.f26 ((spec_l1In.e k).args.enc (a0, a1, a2, ())) (spec_l1In.e k).ret.dec = spec_l1In.f k a0 a1 a2 := by kernel_rfl
theorem spec_l1In.ok1 (k : Nat) (hC : AllFun Tryd.prog (spec_l1In.c k)) : Fun Tryd.prog 26 (spec_l1In.e k).G := fun_ok mixed (body := spec_l1In.bd) Tryd.func26 (by kernel_rfl) (by kernel_rfl) (by kernel_rfl) hC (loops_all 0 (by kernel_rfl) fun i hi => absurd hi (Nat.not_lt_zero i)) (spec_l1In.e k) (fun a => Nat.le_of_ble_eq_true (by kernel_rfl)) fun a b h => (spec_l1In.link k a.1 a.2.1 a.2.2.1).trans h
theorem spec_l1In.ok (k : Nat) : Fun Tryd.prog 26 (spec_l1In.e k).G := spec_l1In.ok1 k trivial

noncomputable def spec_l3Abs.f (k : Nat) (a0 : Int) : Option Int :=
  if (decide (a0 < 0)) = true then (some (W (0 - a0))) else (some a0)
noncomputable def spec_l3Abs.e (k : Nat) : FE := { α := Int × Unit, β := Int, args := (lCons (aI .i64) lNil), ret := (rOne (aI .i64)), f := fun p => spec_l3Abs.f k p.1 }
noncomputable def spec_l3Abs.c (k : Nat) : List (Nat × CE) := []
noncomputable def spec_l3Abs.bd : Code := match Tryd.f43.body with | some c => c | none => .skip
noncomputable def spec_l3Abs.g (k : Nat) : List (Nat × LE) := []
theorem spec_l3Abs.link (k : Nat) (a0 : Int) : evFun (mkCx Tryd.prog (spec_l3Abs.c k) (spec_l3Abs.g k) : Cx Int) Tryd.f43 ((spec_l3Abs.e k).args.enc (a0, ())) (spec_l3Abs.e k).ret.dec = spec_l3Abs.f k a0 := by kernel_rfl
theorem spec_l3Abs.ok1 (k : Nat) (hC : AllFun Tryd.prog (spec_l3Abs.c k)) : Fun Tryd.prog 43 (spec_l3Abs.e k).G := fun_ok mixed (body := spec_l3Abs.bd) Tryd.func43 (by kernel_rfl) (by kernel_rfl) (by kernel_rfl) hC (loops_all 0 (by kernel_rfl) fun i hi => absurd hi (Nat.not_lt_zero i)) (spec_l3Abs.e k) (fun a => Nat.le_of_ble_eq_true (by kernel_rfl)) fun a b h => (spec_l3Abs.link k a.1).trans h
theorem spec_l3Abs.ok (k : Nat) : Fun Tryd.prog 43 (spec_l3Abs.e k).G := spec_l3Abs.ok1 k trivial

noncomputable def spec_l3Gcd.H3 : Hd := ⟨[], [0, 1], [], [], []⟩
@[reducible] def spec_l3Gcd.A3 : Type := ((Int × Int × Unit) × (Unit))
noncomputable def spec_l3Gcd.Z3 : SC spec_l3Gcd.A3 := sC spec_l3Gcd.H3 (eCons 0 (tP (aI .i64)) (eCons 1 (tP (aI .i64)) eNil)) bNil
@[reducible] def spec_l3Gcd.B3 : Type := ((Int × Unit) × (Unit))
noncomputable def spec_l3Gcd.X3 : XC spec_l3Gcd.B3 := xExit 0 (sC ⟨[], [0], [], [], []⟩ (eCons 0 (tP (aI .i64)) eNil) bNil)
noncomputable def spec_l3Gcd.s3 (k : Nat)  (J : Int → Int → Option spec_l3Gcd.B3) (x0 : Int) (x1 : Int) : Option spec_l3Gcd.B3 :=
  if (decide (x1 > 0)) = true then (if x1 = 0 then none else (J x1 (x0.tmod x1))) else (some ((x0, ()), (())))
noncomputable def spec_l3Gcd.l3 (k : Nat)  : Nat → Int → Int → Option spec_l3Gcd.B3
  | 0, _, _ => none
  | n + 1, x0, x1 => spec_l3Gcd.s3 k (spec_l3Gcd.l3 k n) x0 x1
noncomputable def spec_l3Gcd.f (k : Nat) (a0 : Int) (a1 : Int) : Option Int :=
  (spec_l3Abs.f k  a0).bind fun t1 => (spec_l3Abs.f k  a1).bind fun t2 => (spec_l3Gcd.l3 k k t1 t2).bind fun x3 => some x3.1.1
noncomputable def spec_l3Gcd.e (k : Nat) : FE := { α := Int × Int × Unit, β := Int, args := (lCons (aI .i64) (lCons (aI .i64) lNil)), ret := (rOne (aI .i64)), f := fun p => spec_l3Gcd.f k p.1 p.2.1 }
noncomputable def spec_l3Gcd.c (k : Nat) : List (Nat × CE) := [(43, .fn (spec_l3Abs.e k))]
noncomputable def spec_l3Gcd.bd : Code := match Tryd.f27.body with | some c => c | none => .skip
noncomputable def spec_l3Gcd.e3 (k : Nat) : LE := { H := spec_l3Gcd.H3, α := spec_l3Gcd.A3, β := spec_l3Gcd.B3, st := spec_l3Gcd.Z3, xt := spec_l3Gcd.X3, f := fun p => spec_l3Gcd.l3 k k p.1.1 p.1.2.1 }
noncomputable def spec_l3Gcd.g (k : Nat) : List (Nat × LE) := [(3, spec_l3Gcd.e3 k)]
theorem spec_l3Gcd.t3 (k : Nat) (I : S2 → Option spec_l3Gcd.B3) (x0 : Int) (x1 : Int) : stepOf (mkCx Tryd.prog (spec_l3Gcd.c k) (spec_l3Gcd.g k) : Cx spec_l3Gcd.B3) (loopAt spec_l3Gcd.bd 0) spec_l3Gcd.H3 spec_l3Gcd.X3.dec I (spec_l3Gcd.Z3.enc ((x0, x1, ()), (()))) = spec_l3Gcd.s3 k (fun x0 x1 => I (spec_l3Gcd.Z3.enc ((x0, x1, ()), (())))) x0 x1 := by kernel_rfl
theorem spec_l3Gcd.i3 (k : Nat) : ∀ (n : Nat) (x0 : Int) (x1 : Int), iter (evCode (mkCx Tryd.prog (spec_l3Gcd.c k) (spec_l3Gcd.g k) : Cx spec_l3Gcd.B3) (loopAt spec_l3Gcd.bd 0)) spec_l3Gcd.H3 spec_l3Gcd.X3.dec n (spec_l3Gcd.Z3.enc ((x0, x1, ()), (()))) = spec_l3Gcd.l3 k n x0 x1
  | 0, _, _ => rfl
  | n + 1, x0, x1 => ((iter_step _ _ _ _ n _).trans (spec_l3Gcd.t3 k _ x0 x1)).trans (congrArg (fun J => spec_l3Gcd.s3 k J x0 x1) (funext fun x0 => funext fun x1 => spec_l3Gcd.i3 k n x0 x1))
theorem spec_l3Gcd.to3 (k : Nat) (hC : AllFun Tryd.prog (spec_l3Gcd.c k)) : LoopTo Tryd.prog 18 (spec_l3Gcd.e3 k) (loopAt spec_l3Gcd.bd 0) := loop_to mixed hC (by kernel_rfl) (loops_all 0 (by kernel_rfl) fun i hi => absurd hi (Nat.not_lt_zero i)) fun a b h => ⟨k, (spec_l3Gcd.i3 k k a.1.1 a.1.2.1).trans h⟩
theorem spec_l3Gcd.link (k : Nat) (a0 : Int) (a1 : Int) : evFun (mkCx Tryd.prog (spec_l3Gcd.c k) (spec_l3Gcd.g k) : Cx Int) Tryd.f27 ((spec_l3Gcd.e k).args.enc (a0, a1, ())) (spec_l3Gcd.e k).ret.dec = spec_l3Gcd.f k a0 a1 := by kernel_rfl
theorem spec_l3Gcd.ok1 (k : Nat) (hC : AllFun Tryd.prog (spec_l3Gcd.c k)) : Fun Tryd.prog 27 (spec_l3Gcd.e k).G := fun_ok mixed (body := spec_l3Gcd.bd) Tryd.func27 (by kernel_rfl) (by kernel_rfl) (by kernel_rfl) hC (loops_all 1 (by kernel_rfl) fun i hi => by obtain rfl : i = 0 := Nat.lt_one_iff.1 hi; exact ⟨spec_l3Gcd.e3 k, by kernel_rfl, spec_l3Gcd.to3 k hC⟩) (spec_l3Gcd.e k) (fun a => Nat.le_of_ble_eq_true (by kernel_rfl)) fun a b h => (spec_l3Gcd.link k a.1 a.2.1).trans h
theorem spec_l3Gcd.ok (k : Nat) : Fun Tryd.prog 27 (spec_l3Gcd.e k).G := spec_l3Gcd.ok1 k ⟨spec_l3Abs.ok k, trivial⟩

noncomputable def spec_SpotOk.f (k : Nat) (a0 : S4) : Option Bool :=
  (spec_l1In.f k  a0.d 1 1000000000).bind fun t1 => if t1 = true then ((spec_l1In.f k  a0.a (-1000000000) 1000000000).bind fun t2 => if t2 = true then ((spec_l1In.f k  a0.b (-1000000000) 1000000000).bind fun t3 => if t3 = true then ((spec_l1In.f k  a0.c (-1000000000) 1000000000).bind fun t4 => if t4 = true then ((spec_l3Gcd.f k  a0.a a0.b).bind fun t5 => (spec_l3Gcd.f k  a0.c a0.d).bind fun t6 => (spec_l3Gcd.f k  t5 t6).bind fun t7 => some (t7 == 1)) else (some false)) else (some false)) else (some false)) else (some false)
noncomputable def spec_SpotOk.e (k : Nat) : FE := { α := S4 × Unit, β := Bool, args := (lCons aS4 lNil), ret := (rOne aB), f := fun p => spec_SpotOk.f k p.1 }
noncomputable def spec_SpotOk.c (k : Nat) : List (Nat × CE) := [(26, .fn (spec_l1In.e k)), (27, .fn (spec_l3Gcd.e k))]
noncomputable def spec_SpotOk.bd : Code := match Tryd.f15.body with | some c => c | none => .skip
noncomputable def spec_SpotOk.g (k : Nat) : List (Nat × LE) := []
theorem spec_SpotOk.link (k : Nat) (a0 : S4) : evFun (mkCx Tryd.prog (spec_SpotOk.c k) (spec_SpotOk.g k) : Cx Bool) Tryd.f15 ((spec_SpotOk.e k).args.enc (a0, ())) (spec_SpotOk.e k).ret.dec = spec_SpotOk.f k a0 := by kernel_rfl
theorem spec_SpotOk.ok1 (k : Nat) (hC : AllFun Tryd.prog (spec_SpotOk.c k)) : Fun Tryd.prog 15 (spec_SpotOk.e k).G := fun_ok mixed (body := spec_SpotOk.bd) Tryd.func15 (by kernel_rfl) (by kernel_rfl) (by kernel_rfl) hC (loops_all 0 (by kernel_rfl) fun i hi => absurd hi (Nat.not_lt_zero i)) (spec_SpotOk.e k) (fun a => Nat.le_of_ble_eq_true (by kernel_rfl)) fun a b h => (spec_SpotOk.link k a.1).trans h
theorem spec_SpotOk.ok (k : Nat) : Fun Tryd.prog 15 (spec_SpotOk.e k).G := spec_SpotOk.ok1 k ⟨spec_l1In.ok k, spec_l3Gcd.ok k, trivial⟩

noncomputable def spec_NumOk.H3 : Hd := ⟨[], [1, 3, 4], [1], [], []⟩
@[reducible] def spec_NumOk.A3 : Type := ((Unit × Int × Int × Unit) × (Nm × Unit))
noncomputable def spec_NumOk.Z3 : SC spec_NumOk.A3 := sC spec_NumOk.H3 (eCons 1 (tRef 1 0) (eCons 3 (tP (aI .i64)) (eCons 4 (tP (aI .i64)) eNil))) (bCons 1 (xVr cNum) bNil)
@[reducible] def spec_NumOk.B3 : Type := ((Bool × Unit) × (Unit)) ⊕ ((Unit × Int × Unit) × (Nm × Unit))
noncomputable def spec_NumOk.X3 : XC spec_NumOk.B3 := xOr (xRet (sC ⟨[], [2], [], [], []⟩ (eCons 2 (tP aB) eNil) bNil)) (xExit 0 (sC ⟨[], [1, 3], [1], [], []⟩ (eCons 1 (tRef 1 0) (eCons 3 (tP (aI .i64)) eNil)) (bCons 1 (xVr cNum) bNil)))
noncomputable def spec_NumOk.s3 (k : Nat)  (J : Int → Int → Nm → Option spec_NumOk.B3) (x3 : Int) (x4 : Int) (b1 : Nm) : Option spec_NumOk.B3 :=
  if (decide (x4 < x3)) = true then (if (decide (x4 ≤ 120)) = true then (if 0 ≤ x4 then (if x4 < (b1.d.length : Int) then ((spec_l1In.f k  (rd b1.d x4) 0 9999).bind fun t1 => if (!t1) = true then (some (.inl ((false, ()), (())))) else (J x3 (W (x4 + 1)) b1)) else none) else none) else (some (.inr (((), x3, ()), (b1, ()))))) else (some (.inr (((), x3, ()), (b1, ()))))
noncomputable def spec_NumOk.l3 (k : Nat)  : Nat → Int → Int → Nm → Option spec_NumOk.B3
  | 0, _, _, _ => none
  | n + 1, x3, x4, b1 => spec_NumOk.s3 k (spec_NumOk.l3 k n) x3 x4 b1
noncomputable def spec_NumOk.f (k : Nat) (a0 : Nm) : Option Bool :=
  (spec_NumOk.l3 k k (a0.d.length : Int) 0 a0).bind fun | .inl r2 => (some r2.1.1) | .inr x3 => (if (decide (x3.1.2.1 ≤ 120)) = true then (if (x3.1.2.1 == 0) = true then (if (!x3.2.1.neg) = true then (some true) else (if (decide (x3.1.2.1 > 0)) = true then (if 0 ≤ (W (x3.1.2.1 - 1)) then (if (W (x3.1.2.1 - 1)) < (x3.2.1.d.length : Int) then (some ((rd x3.2.1.d (W (x3.1.2.1 - 1))) != 0)) else none) else none) else (some false))) else (if (decide (x3.1.2.1 > 0)) = true then (if 0 ≤ (W (x3.1.2.1 - 1)) then (if (W (x3.1.2.1 - 1)) < (x3.2.1.d.length : Int) then (some ((rd x3.2.1.d (W (x3.1.2.1 - 1))) != 0)) else none) else none) else (some false))) else (some false))
noncomputable def spec_NumOk.e (k : Nat) : FE := { α := Nm × Unit, β := Bool, args := (lCons aNum lNil), ret := (rOne aB), f := fun p => spec_NumOk.f k p.1 }
noncomputable def spec_NumOk.c (k : Nat) : List (Nat × CE) := [(26, .fn (spec_l1In.e k))]
noncomputable def spec_NumOk.bd : Code := match Tryd.f50.body with | some c => c | none => .skip
noncomputable def spec_NumOk.e3 (k : Nat) : LE := { H := spec_NumOk.H3, α := spec_NumOk.A3, β := spec_NumOk.B3, st := spec_NumOk.Z3, xt := spec_NumOk.X3, f := fun p => spec_NumOk.l3 k k p.1.2.1 p.1.2.2.1 p.2.1 }
noncomputable def spec_NumOk.g (k : Nat) : List (Nat × LE) := [(3, spec_NumOk.e3 k)]
theorem spec_NumOk.t3 (k : Nat) (I : S2 → Option spec_NumOk.B3) (x3 : Int) (x4 : Int) (b1 : Nm) : stepOf (mkCx Tryd.prog (spec_NumOk.c k) (spec_NumOk.g k) : Cx spec_NumOk.B3) (loopAt spec_NumOk.bd 0) spec_NumOk.H3 spec_NumOk.X3.dec I (spec_NumOk.Z3.enc (((), x3, x4, ()), (b1, ()))) = spec_NumOk.s3 k (fun x3 x4 b1 => I (spec_NumOk.Z3.enc (((), x3, x4, ()), (b1, ())))) x3 x4 b1 := by kernel_rfl
theorem spec_NumOk.i3 (k : Nat) : ∀ (n : Nat) (x3 : Int) (x4 : Int) (b1 : Nm), iter (evCode (mkCx Tryd.prog (spec_NumOk.c k) (spec_NumOk.g k) : Cx spec_NumOk.B3) (loopAt spec_NumOk.bd 0)) spec_NumOk.H3 spec_NumOk.X3.dec n (spec_NumOk.Z3.enc (((), x3, x4, ()), (b1, ()))) = spec_NumOk.l3 k n x3 x4 b1
  | 0, _, _, _ => rfl
  | n + 1, x3, x4, b1 => ((iter_step _ _ _ _ n _).trans (spec_NumOk.t3 k _ x3 x4 b1)).trans (congrArg (fun J => spec_NumOk.s3 k J x3 x4 b1) (funext fun x3 => funext fun x4 => funext fun b1 => spec_NumOk.i3 k n x3 x4 b1))
theorem spec_NumOk.to3 (k : Nat) (hC : AllFun Tryd.prog (spec_NumOk.c k)) : LoopTo Tryd.prog 48 (spec_NumOk.e3 k) (loopAt spec_NumOk.bd 0) := loop_to mixed hC (by kernel_rfl) (loops_all 0 (by kernel_rfl) fun i hi => absurd hi (Nat.not_lt_zero i)) fun a b h => ⟨k, (spec_NumOk.i3 k k a.1.2.1 a.1.2.2.1 a.2.1).trans h⟩
theorem spec_NumOk.link (k : Nat) (a0 : Nm) : evFun (mkCx Tryd.prog (spec_NumOk.c k) (spec_NumOk.g k) : Cx Bool) Tryd.f50 ((spec_NumOk.e k).args.enc (a0, ())) (spec_NumOk.e k).ret.dec = spec_NumOk.f k a0 := by kernel_rfl
theorem spec_NumOk.ok1 (k : Nat) (hC : AllFun Tryd.prog (spec_NumOk.c k)) : Fun Tryd.prog 50 (spec_NumOk.e k).G := fun_ok mixed (body := spec_NumOk.bd) Tryd.func50 (by kernel_rfl) (by kernel_rfl) (by kernel_rfl) hC (loops_all 1 (by kernel_rfl) fun i hi => by obtain rfl : i = 0 := Nat.lt_one_iff.1 hi; exact ⟨spec_NumOk.e3 k, by kernel_rfl, spec_NumOk.to3 k hC⟩) (spec_NumOk.e k) (fun a => Nat.le_of_ble_eq_true (by kernel_rfl)) fun a b h => (spec_NumOk.link k a.1).trans h
theorem spec_NumOk.ok (k : Nat) : Fun Tryd.prog 50 (spec_NumOk.e k).G := spec_NumOk.ok1 k ⟨spec_l1In.ok k, trivial⟩

noncomputable def spec_l1Mag.f (k : Nat) (a0 : Nm) : Option (List Int) :=
  (spec_NumOk.f k  a0).bind fun t1 => if (!t1) = true then (some ([] : List Int)) else (some a0.d)
noncomputable def spec_l1Mag.e (k : Nat) : FE := { α := Nm × Unit, β := List Int, args := (lCons aNum lNil), ret := (rSh (.i .i64)), f := fun p => spec_l1Mag.f k p.1 }
noncomputable def spec_l1Mag.c (k : Nat) : List (Nat × CE) := [(50, .fn (spec_NumOk.e k))]
noncomputable def spec_l1Mag.bd : Code := match Tryd.f44.body with | some c => c | none => .skip
noncomputable def spec_l1Mag.g (k : Nat) : List (Nat × LE) := []
theorem spec_l1Mag.link (k : Nat) (a0 : Nm) : evFun (mkCx Tryd.prog (spec_l1Mag.c k) (spec_l1Mag.g k) : Cx (List Int)) Tryd.f44 ((spec_l1Mag.e k).args.enc (a0, ())) (spec_l1Mag.e k).ret.dec = spec_l1Mag.f k a0 := by kernel_rfl
theorem spec_l1Mag.ok1 (k : Nat) (hC : AllFun Tryd.prog (spec_l1Mag.c k)) : Fun Tryd.prog 44 (spec_l1Mag.e k).G := fun_ok mixed (body := spec_l1Mag.bd) Tryd.func44 (by kernel_rfl) (by kernel_rfl) (by kernel_rfl) hC (loops_all 0 (by kernel_rfl) fun i hi => absurd hi (Nat.not_lt_zero i)) (spec_l1Mag.e k) (fun a => Nat.le_of_ble_eq_true (by kernel_rfl)) fun a b h => (spec_l1Mag.link k a.1).trans h
theorem spec_l1Mag.ok (k : Nat) : Fun Tryd.prog 44 (spec_l1Mag.e k).G := spec_l1Mag.ok1 k ⟨spec_NumOk.ok k, trivial⟩

noncomputable def spec_l1Four.f (k : Nat) (a0 : Int) : Option ByteArray :=
  if 1000 = 0 then none else (if 100 = 0 then none else (if 10 = 0 then none else (if 10 = 0 then none else (if 10 = 0 then none else (if 10 = 0 then none else (some (strOf ([(IntKind.wrap .u8 (W (48 + (W (a0.tdiv 1000))))), (IntKind.wrap .u8 (W (48 + ((W (a0.tdiv 100)).tmod 10)))), (IntKind.wrap .u8 (W (48 + ((W (a0.tdiv 10)).tmod 10)))), (IntKind.wrap .u8 (W (48 + (a0.tmod 10))))] : List Int))))))))
noncomputable def spec_l1Four.e (k : Nat) : FE := { α := Int × Unit, β := ByteArray, args := (lCons (aI .i64) lNil), ret := (rOne aStr), f := fun p => spec_l1Four.f k p.1 }
noncomputable def spec_l1Four.c (k : Nat) : List (Nat × CE) := []
noncomputable def spec_l1Four.bd : Code := match Tryd.f45.body with | some c => c | none => .skip
noncomputable def spec_l1Four.g (k : Nat) : List (Nat × LE) := []
theorem spec_l1Four.link (k : Nat) (a0 : Int) : evFun (mkCx Tryd.prog (spec_l1Four.c k) (spec_l1Four.g k) : Cx ByteArray) Tryd.f45 ((spec_l1Four.e k).args.enc (a0, ())) (spec_l1Four.e k).ret.dec = spec_l1Four.f k a0 := by kernel_rfl
theorem spec_l1Four.ok1 (k : Nat) (hC : AllFun Tryd.prog (spec_l1Four.c k)) : Fun Tryd.prog 45 (spec_l1Four.e k).G := fun_ok mixed (body := spec_l1Four.bd) Tryd.func45 (by kernel_rfl) (by kernel_rfl) (by kernel_rfl) hC (loops_all 0 (by kernel_rfl) fun i hi => absurd hi (Nat.not_lt_zero i)) (spec_l1Four.e k) (fun a => Nat.le_of_ble_eq_true (by kernel_rfl)) fun a b h => (spec_l1Four.link k a.1).trans h
theorem spec_l1Four.ok (k : Nat) : Fun Tryd.prog 45 (spec_l1Four.e k).G := spec_l1Four.ok1 k trivial

noncomputable def spec_NumText.H6 : Hd := ⟨[], [1, 3, 4, 5], [1], [], []⟩
@[reducible] def spec_NumText.A6 : Type := ((Unit × (List Int) × ByteArray × Int × Unit) × (Nm × Unit))
noncomputable def spec_NumText.Z6 : SC spec_NumText.A6 := sC spec_NumText.H6 (eCons 1 (tRef 1 0) (eCons 3 (tP (aSl (.i .i64))) (eCons 4 (tP aStr) (eCons 5 (tP (aI .i64)) eNil)))) (bCons 1 (xVr cNum) bNil)
@[reducible] def spec_NumText.B6 : Type := ((Unit × ByteArray × Unit) × (Nm × Unit))
noncomputable def spec_NumText.X6 : XC spec_NumText.B6 := xExit 0 (sC ⟨[], [1, 4], [1], [], []⟩ (eCons 1 (tRef 1 0) (eCons 4 (tP aStr) eNil)) (bCons 1 (xVr cNum) bNil))
noncomputable def spec_NumText.s6 (k : Nat)  (J : (List Int) → ByteArray → Int → Nm → Option spec_NumText.B6) (x3 : List Int) (x4 : ByteArray) (x5 : Int) (b1 : Nm) : Option spec_NumText.B6 :=
  if (decide (x5 ≥ 0)) = true then (if 0 ≤ x5 then (if x5 < (x3.length : Int) then ((spec_l1Four.f k  (rd x3 x5)).bind fun t2 => if lt47 (x4.size + t2.size) = true then (J x3 (x4 ++ t2) (W (x5 - 1)) b1) else none) else none) else none) else (some (((), x4, ()), (b1, ())))
noncomputable def spec_NumText.l6 (k : Nat)  : Nat → (List Int) → ByteArray → Int → Nm → Option spec_NumText.B6
  | 0, _, _, _, _ => none
  | n + 1, x3, x4, x5, b1 => spec_NumText.s6 k (spec_NumText.l6 k n) x3 x4 x5 b1
noncomputable def spec_NumText.H9 : Hd := ⟨[], [1, 4], [1], [], []⟩
@[reducible] def spec_NumText.A9 : Type := ((Unit × ByteArray × Unit) × (Nm × Unit))
noncomputable def spec_NumText.Z9 : SC spec_NumText.A9 := sC spec_NumText.H9 (eCons 1 (tRef 1 0) (eCons 4 (tP aStr) eNil)) (bCons 1 (xVr cNum) bNil)
@[reducible] def spec_NumText.B9 : Type := ((Unit × ByteArray × Unit) × (Nm × Unit))
noncomputable def spec_NumText.X9 : XC spec_NumText.B9 := xExit 2 (sC ⟨[], [1, 4], [1], [], []⟩ (eCons 1 (tRef 1 0) (eCons 4 (tP aStr) eNil)) (bCons 1 (xVr cNum) bNil))
noncomputable def spec_NumText.s9 (k : Nat)  (J : ByteArray → Nm → Option spec_NumText.B9) (x4 : ByteArray) (b1 : Nm) : Option spec_NumText.B9 :=
  if 0 ≤ (0 : Int) then (if (0 : Int).toNat < x4.size then (if ((bAt x4 ((0 : Int).toNat)) == 48) = true then (if 0 ≤ (1 : Int) then (if 1 ≤ (x4.size : Int) then (J (x4.extract ((1 : Int).toNat) x4.size) b1) else none) else none) else (some (((), x4, ()), (b1, ())))) else none) else none
noncomputable def spec_NumText.l9 (k : Nat)  : Nat → ByteArray → Nm → Option spec_NumText.B9
  | 0, _, _ => none
  | n + 1, x4, b1 => spec_NumText.s9 k (spec_NumText.l9 k n) x4 b1
noncomputable def spec_NumText.f (k : Nat) (a0 : Nm) : Option ByteArray :=
  (spec_l1Mag.f k  a0).bind fun t1 => if ((t1.length : Int) == 0) = true then (some (⟨#[48]⟩ : ByteArray)) else ((spec_NumText.l6 k k t1 (⟨#[]⟩ : ByteArray) (W ((t1.length : Int) - 1)) a0).bind fun x3 => (spec_NumText.l9 k k x3.1.2.1 x3.2.1).bind fun x4 => if x4.2.1.neg = true then (if lt47 ((⟨#[45]⟩ : ByteArray).size + x4.1.2.1.size) = true then (some ((⟨#[45]⟩ : ByteArray) ++ x4.1.2.1)) else none) else (some x4.1.2.1))
noncomputable def spec_NumText.e (k : Nat) : FE := { α := Nm × Unit, β := ByteArray, args := (lCons aNum lNil), ret := (rOne aStr), f := fun p => spec_NumText.f k p.1 }
noncomputable def spec_NumText.c (k : Nat) : List (Nat × CE) := [(44, .fn (spec_l1Mag.e k)), (45, .fn (spec_l1Four.e k))]
noncomputable def spec_NumText.bd : Code := match Tryd.f28.body with | some c => c | none => .skip
noncomputable def spec_NumText.e6 (k : Nat) : LE := { H := spec_NumText.H6, α := spec_NumText.A6, β := spec_NumText.B6, st := spec_NumText.Z6, xt := spec_NumText.X6, f := fun p => spec_NumText.l6 k k p.1.2.1 p.1.2.2.1 p.1.2.2.2.1 p.2.1 }
noncomputable def spec_NumText.e9 (k : Nat) : LE := { H := spec_NumText.H9, α := spec_NumText.A9, β := spec_NumText.B9, st := spec_NumText.Z9, xt := spec_NumText.X9, f := fun p => spec_NumText.l9 k k p.1.2.1 p.2.1 }
noncomputable def spec_NumText.g (k : Nat) : List (Nat × LE) := [(6, spec_NumText.e6 k), (9, spec_NumText.e9 k)]
theorem spec_NumText.t6 (k : Nat) (I : S2 → Option spec_NumText.B6) (x3 : List Int) (x4 : ByteArray) (x5 : Int) (b1 : Nm) : stepOf (mkCx Tryd.prog (spec_NumText.c k) (spec_NumText.g k) : Cx spec_NumText.B6) (loopAt spec_NumText.bd 0) spec_NumText.H6 spec_NumText.X6.dec I (spec_NumText.Z6.enc (((), x3, x4, x5, ()), (b1, ()))) = spec_NumText.s6 k (fun x3 x4 x5 b1 => I (spec_NumText.Z6.enc (((), x3, x4, x5, ()), (b1, ())))) x3 x4 x5 b1 := by kernel_rfl
theorem spec_NumText.i6 (k : Nat) : ∀ (n : Nat) (x3 : List Int) (x4 : ByteArray) (x5 : Int) (b1 : Nm), iter (evCode (mkCx Tryd.prog (spec_NumText.c k) (spec_NumText.g k) : Cx spec_NumText.B6) (loopAt spec_NumText.bd 0)) spec_NumText.H6 spec_NumText.X6.dec n (spec_NumText.Z6.enc (((), x3, x4, x5, ()), (b1, ()))) = spec_NumText.l6 k n x3 x4 x5 b1
  | 0, _, _, _, _ => rfl
  | n + 1, x3, x4, x5, b1 => ((iter_step _ _ _ _ n _).trans (spec_NumText.t6 k _ x3 x4 x5 b1)).trans (congrArg (fun J => spec_NumText.s6 k J x3 x4 x5 b1) (funext fun x3 => funext fun x4 => funext fun x5 => funext fun b1 => spec_NumText.i6 k n x3 x4 x5 b1))
theorem spec_NumText.t9 (k : Nat) (I : S2 → Option spec_NumText.B9) (x4 : ByteArray) (b1 : Nm) : stepOf (mkCx Tryd.prog (spec_NumText.c k) (spec_NumText.g k) : Cx spec_NumText.B9) (loopAt spec_NumText.bd 1) spec_NumText.H9 spec_NumText.X9.dec I (spec_NumText.Z9.enc (((), x4, ()), (b1, ()))) = spec_NumText.s9 k (fun x4 b1 => I (spec_NumText.Z9.enc (((), x4, ()), (b1, ())))) x4 b1 := by kernel_rfl
theorem spec_NumText.i9 (k : Nat) : ∀ (n : Nat) (x4 : ByteArray) (b1 : Nm), iter (evCode (mkCx Tryd.prog (spec_NumText.c k) (spec_NumText.g k) : Cx spec_NumText.B9) (loopAt spec_NumText.bd 1)) spec_NumText.H9 spec_NumText.X9.dec n (spec_NumText.Z9.enc (((), x4, ()), (b1, ()))) = spec_NumText.l9 k n x4 b1
  | 0, _, _ => rfl
  | n + 1, x4, b1 => ((iter_step _ _ _ _ n _).trans (spec_NumText.t9 k _ x4 b1)).trans (congrArg (fun J => spec_NumText.s9 k J x4 b1) (funext fun x4 => funext fun b1 => spec_NumText.i9 k n x4 b1))
theorem spec_NumText.to6 (k : Nat) (hC : AllFun Tryd.prog (spec_NumText.c k)) : LoopTo Tryd.prog 35 (spec_NumText.e6 k) (loopAt spec_NumText.bd 0) := loop_to mixed hC (by kernel_rfl) (loops_all 0 (by kernel_rfl) fun i hi => absurd hi (Nat.not_lt_zero i)) fun a b h => ⟨k, (spec_NumText.i6 k k a.1.2.1 a.1.2.2.1 a.1.2.2.2.1 a.2.1).trans h⟩
theorem spec_NumText.to9 (k : Nat) (hC : AllFun Tryd.prog (spec_NumText.c k)) : LoopTo Tryd.prog 35 (spec_NumText.e9 k) (loopAt spec_NumText.bd 1) := loop_to mixed hC (by kernel_rfl) (loops_all 0 (by kernel_rfl) fun i hi => absurd hi (Nat.not_lt_zero i)) fun a b h => ⟨k, (spec_NumText.i9 k k a.1.2.1 a.2.1).trans h⟩
theorem spec_NumText.link (k : Nat) (a0 : Nm) : evFun (mkCx Tryd.prog (spec_NumText.c k) (spec_NumText.g k) : Cx ByteArray) Tryd.f28 ((spec_NumText.e k).args.enc (a0, ())) (spec_NumText.e k).ret.dec = spec_NumText.f k a0 := by kernel_rfl
theorem spec_NumText.ok1 (k : Nat) (hC : AllFun Tryd.prog (spec_NumText.c k)) : Fun Tryd.prog 28 (spec_NumText.e k).G := fun_ok mixed (body := spec_NumText.bd) Tryd.func28 (by kernel_rfl) (by kernel_rfl) (by kernel_rfl) hC (loops_all 2 (by kernel_rfl) fun i hi => match i, hi with | 0, _ => ⟨spec_NumText.e6 k, by kernel_rfl, spec_NumText.to6 k hC⟩ | 1, _ => ⟨spec_NumText.e9 k, by kernel_rfl, spec_NumText.to9 k hC⟩ | i + 2, hi => absurd hi (by omega)) (spec_NumText.e k) (fun a => Nat.le_of_ble_eq_true (by kernel_rfl)) fun a b h => (spec_NumText.link k a.1).trans h
theorem spec_NumText.ok (k : Nat) : Fun Tryd.prog 28 (spec_NumText.e k).G := spec_NumText.ok1 k ⟨spec_l1Mag.ok k, spec_l1Four.ok k, trivial⟩

noncomputable def spec_l1Num.H2 : Hd := ⟨[], [0, 1, 4, 5], [4], [], []⟩
@[reducible] def spec_l1Num.A2 : Type := ((Bool × (List Int) × Unit × Int × Unit) × (Nm × Unit))
noncomputable def spec_l1Num.Z2 : SC spec_l1Num.A2 := sC spec_l1Num.H2 (eCons 0 (tP aB) (eCons 1 (tP (aSl (.i .i64))) (eCons 4 (tRef 4 0) (eCons 5 (tP (aI .i64)) eNil)))) (bCons 4 (xVr cNum) bNil)
@[reducible] def spec_l1Num.B2 : Type := ((Bool × (List Int) × Unit × Int × Unit) × (Nm × Unit))
noncomputable def spec_l1Num.X2 : XC spec_l1Num.B2 := xExit 0 (sC ⟨[], [0, 1, 4, 5], [4], [], []⟩ (eCons 0 (tP aB) (eCons 1 (tP (aSl (.i .i64))) (eCons 4 (tRef 4 0) (eCons 5 (tP (aI .i64)) eNil)))) (bCons 4 (xVr cNum) bNil))
noncomputable def spec_l1Num.s2 (k : Nat)  (J : Bool → (List Int) → Int → Nm → Option spec_l1Num.B2) (x0 : Bool) (x1 : List Int) (x5 : Int) (b4 : Nm) : Option spec_l1Num.B2 :=
  if (decide (x5 > 0)) = true then (if 0 ≤ (W (x5 - 1)) then (if (W (x5 - 1)) < (x1.length : Int) then (if ((rd x1 (W (x5 - 1))) == 0) = true then (J x0 x1 (W (x5 - 1)) b4) else (some ((x0, x1, (), x5, ()), (b4, ())))) else none) else none) else (some ((x0, x1, (), x5, ()), (b4, ())))
noncomputable def spec_l1Num.l2 (k : Nat)  : Nat → Bool → (List Int) → Int → Nm → Option spec_l1Num.B2
  | 0, _, _, _, _ => none
  | n + 1, x0, x1, x5, b4 => spec_l1Num.s2 k (spec_l1Num.l2 k n) x0 x1 x5 b4
noncomputable def spec_l1Num.f (k : Nat) (a0 : Bool) (a1 : List Int) : Option Nm :=
  (spec_l1Num.l2 k k a0 a1 (a1.length : Int) (⟨false, ([] : List Int)⟩ : Nm)).bind fun x1 => if x1.1.1 = true then (if 0 ≤ x1.1.2.2.2.1 then (if x1.1.2.2.2.1 ≤ (x1.1.2.1.length : Int) then (if lt47 (([] : List Int).length + (x1.1.2.1.take x1.1.2.2.2.1.toNat).length) = true then (some (⟨(decide (x1.1.2.2.2.1 > 0)), (([] : List Int) ++ (x1.1.2.1.take x1.1.2.2.2.1.toNat))⟩ : Nm)) else none) else none) else none) else (if 0 ≤ x1.1.2.2.2.1 then (if x1.1.2.2.2.1 ≤ (x1.1.2.1.length : Int) then (if lt47 (([] : List Int).length + (x1.1.2.1.take x1.1.2.2.2.1.toNat).length) = true then (some (⟨false, (([] : List Int) ++ (x1.1.2.1.take x1.1.2.2.2.1.toNat))⟩ : Nm)) else none) else none) else none)
noncomputable def spec_l1Num.e (k : Nat) : FE := { α := Bool × (List Int) × Unit, β := Nm, args := (lCons aB (lCons (aSl (.i .i64)) lNil)), ret := (rOne aNum), f := fun p => spec_l1Num.f k p.1 p.2.1 }
noncomputable def spec_l1Num.c (k : Nat) : List (Nat × CE) := []
noncomputable def spec_l1Num.bd : Code := match Tryd.f46.body with | some c => c | none => .skip
noncomputable def spec_l1Num.e2 (k : Nat) : LE := { H := spec_l1Num.H2, α := spec_l1Num.A2, β := spec_l1Num.B2, st := spec_l1Num.Z2, xt := spec_l1Num.X2, f := fun p => spec_l1Num.l2 k k p.1.1 p.1.2.1 p.1.2.2.2.1 p.2.1 }
noncomputable def spec_l1Num.g (k : Nat) : List (Nat × LE) := [(2, spec_l1Num.e2 k)]
theorem spec_l1Num.t2 (k : Nat) (I : S2 → Option spec_l1Num.B2) (x0 : Bool) (x1 : List Int) (x5 : Int) (b4 : Nm) : stepOf (mkCx Tryd.prog (spec_l1Num.c k) (spec_l1Num.g k) : Cx spec_l1Num.B2) (loopAt spec_l1Num.bd 0) spec_l1Num.H2 spec_l1Num.X2.dec I (spec_l1Num.Z2.enc ((x0, x1, (), x5, ()), (b4, ()))) = spec_l1Num.s2 k (fun x0 x1 x5 b4 => I (spec_l1Num.Z2.enc ((x0, x1, (), x5, ()), (b4, ())))) x0 x1 x5 b4 := by kernel_rfl
theorem spec_l1Num.i2 (k : Nat) : ∀ (n : Nat) (x0 : Bool) (x1 : List Int) (x5 : Int) (b4 : Nm), iter (evCode (mkCx Tryd.prog (spec_l1Num.c k) (spec_l1Num.g k) : Cx spec_l1Num.B2) (loopAt spec_l1Num.bd 0)) spec_l1Num.H2 spec_l1Num.X2.dec n (spec_l1Num.Z2.enc ((x0, x1, (), x5, ()), (b4, ()))) = spec_l1Num.l2 k n x0 x1 x5 b4
  | 0, _, _, _, _ => rfl
  | n + 1, x0, x1, x5, b4 => ((iter_step _ _ _ _ n _).trans (spec_l1Num.t2 k _ x0 x1 x5 b4)).trans (congrArg (fun J => spec_l1Num.s2 k J x0 x1 x5 b4) (funext fun x0 => funext fun x1 => funext fun x5 => funext fun b4 => spec_l1Num.i2 k n x0 x1 x5 b4))
theorem spec_l1Num.to2 (k : Nat) (hC : AllFun Tryd.prog (spec_l1Num.c k)) : LoopTo Tryd.prog 31 (spec_l1Num.e2 k) (loopAt spec_l1Num.bd 0) := loop_to mixed hC (by kernel_rfl) (loops_all 0 (by kernel_rfl) fun i hi => absurd hi (Nat.not_lt_zero i)) fun a b h => ⟨k, (spec_l1Num.i2 k k a.1.1 a.1.2.1 a.1.2.2.2.1 a.2.1).trans h⟩
theorem spec_l1Num.link (k : Nat) (a0 : Bool) (a1 : List Int) : evFun (mkCx Tryd.prog (spec_l1Num.c k) (spec_l1Num.g k) : Cx Nm) Tryd.f46 ((spec_l1Num.e k).args.enc (a0, a1, ())) (spec_l1Num.e k).ret.dec = spec_l1Num.f k a0 a1 := by kernel_rfl
theorem spec_l1Num.ok1 (k : Nat) (hC : AllFun Tryd.prog (spec_l1Num.c k)) : Fun Tryd.prog 46 (spec_l1Num.e k).G := fun_ok mixed (body := spec_l1Num.bd) Tryd.func46 (by kernel_rfl) (by kernel_rfl) (by kernel_rfl) hC (loops_all 1 (by kernel_rfl) fun i hi => by obtain rfl : i = 0 := Nat.lt_one_iff.1 hi; exact ⟨spec_l1Num.e2 k, by kernel_rfl, spec_l1Num.to2 k hC⟩) (spec_l1Num.e k) (fun a => Nat.le_of_ble_eq_true (by kernel_rfl)) fun a b h => (spec_l1Num.link k a.1 a.2.1).trans h
theorem spec_l1Num.ok (k : Nat) : Fun Tryd.prog 46 (spec_l1Num.e k).G := spec_l1Num.ok1 k trivial

noncomputable def spec_Of.H5 : Hd := ⟨[], [0, 2, 3, 4], [2], [], []⟩
@[reducible] def spec_Of.A5 : Type := ((Int × Unit × Int × Unit × Unit) × (Nm × (List Int) × Unit))
noncomputable def spec_Of.Z5 : SC spec_Of.A5 := sC spec_Of.H5 (eCons 0 (tP (aI .i64)) (eCons 2 (tRef 2 0) (eCons 3 (tP (aI .u64)) (eCons 4 (tOsl 1000004) eNil)))) (bCons 2 (xVr cNum) (bCons 1000004 (xRow 3 (.i .i64)) bNil))
@[reducible] def spec_Of.B5 : Type := ((Int × Unit × Unit × Unit) × (Nm × (List Int) × Unit))
noncomputable def spec_Of.X5 : XC spec_Of.B5 := xExit 0 (sC ⟨[], [0, 2, 4], [2], [], []⟩ (eCons 0 (tP (aI .i64)) (eCons 2 (tRef 2 0) (eCons 4 (tOsl 1000004) eNil))) (bCons 2 (xVr cNum) (bCons 1000004 (xRow 3 (.i .i64)) bNil)))
noncomputable def spec_Of.s5 (k : Nat)  (J : Int → Int → Nm → (List Int) → Option spec_Of.B5) (x0 : Int) (x3 : Int) (b2 : Nm) (b1000004 : List Int) : Option spec_Of.B5 :=
  if (decide (x3 > 0)) = true then (if 10000 = 0 then none else (if lt47 (b1000004.length + ([(W (x3.tmod 10000))] : List Int).length) = true then (if 10000 = 0 then none else (J x0 (U (x3.tdiv 10000)) b2 (b1000004 ++ ([(W (x3.tmod 10000))] : List Int)))) else none)) else (some ((x0, (), (), ()), (b2, b1000004, ())))
noncomputable def spec_Of.l5 (k : Nat)  : Nat → Int → Int → Nm → (List Int) → Option spec_Of.B5
  | 0, _, _, _, _ => none
  | n + 1, x0, x3, b2, b1000004 => spec_Of.s5 k (spec_Of.l5 k n) x0 x3 b2 b1000004
noncomputable def spec_Of.f (k : Nat) (a0 : Int) : Option Nm :=
  if (decide (a0 < 0)) = true then ((spec_Of.l5 k k a0 (U ((U (W (0 - (W (a0 + 1))))) + 1)) (⟨false, ([] : List Int)⟩ : Nm) ([] : List Int)).bind fun x1 => (spec_l1Num.f k  (decide (x1.1.1 < 0)) x1.2.2.1).bind fun t2 => some t2) else ((spec_Of.l5 k k a0 (U a0) (⟨false, ([] : List Int)⟩ : Nm) ([] : List Int)).bind fun x3 => (spec_l1Num.f k  (decide (x3.1.1 < 0)) x3.2.2.1).bind fun t4 => some t4)
noncomputable def spec_Of.e (k : Nat) : FE := { α := Int × Unit, β := Nm, args := (lCons (aI .i64) lNil), ret := (rOne aNum), f := fun p => spec_Of.f k p.1 }
noncomputable def spec_Of.c (k : Nat) : List (Nat × CE) := [(46, .fn (spec_l1Num.e k))]
noncomputable def spec_Of.bd : Code := match Tryd.f29.body with | some c => c | none => .skip
noncomputable def spec_Of.e5 (k : Nat) : LE := { H := spec_Of.H5, α := spec_Of.A5, β := spec_Of.B5, st := spec_Of.Z5, xt := spec_Of.X5, f := fun p => spec_Of.l5 k k p.1.1 p.1.2.2.1 p.2.1 p.2.2.1 }
noncomputable def spec_Of.g (k : Nat) : List (Nat × LE) := [(5, spec_Of.e5 k)]
theorem spec_Of.t5 (k : Nat) (I : S2 → Option spec_Of.B5) (x0 : Int) (x3 : Int) (b2 : Nm) (b1000004 : List Int) : stepOf (mkCx Tryd.prog (spec_Of.c k) (spec_Of.g k) : Cx spec_Of.B5) (loopAt spec_Of.bd 0) spec_Of.H5 spec_Of.X5.dec I (spec_Of.Z5.enc ((x0, (), x3, (), ()), (b2, b1000004, ()))) = spec_Of.s5 k (fun x0 x3 b2 b1000004 => I (spec_Of.Z5.enc ((x0, (), x3, (), ()), (b2, b1000004, ())))) x0 x3 b2 b1000004 := by kernel_rfl
theorem spec_Of.i5 (k : Nat) : ∀ (n : Nat) (x0 : Int) (x3 : Int) (b2 : Nm) (b1000004 : List Int), iter (evCode (mkCx Tryd.prog (spec_Of.c k) (spec_Of.g k) : Cx spec_Of.B5) (loopAt spec_Of.bd 0)) spec_Of.H5 spec_Of.X5.dec n (spec_Of.Z5.enc ((x0, (), x3, (), ()), (b2, b1000004, ()))) = spec_Of.l5 k n x0 x3 b2 b1000004
  | 0, _, _, _, _ => rfl
  | n + 1, x0, x3, b2, b1000004 => ((iter_step _ _ _ _ n _).trans (spec_Of.t5 k _ x0 x3 b2 b1000004)).trans (congrArg (fun J => spec_Of.s5 k J x0 x3 b2 b1000004) (funext fun x0 => funext fun x3 => funext fun b2 => funext fun b1000004 => spec_Of.i5 k n x0 x3 b2 b1000004))
theorem spec_Of.to5 (k : Nat) (hC : AllFun Tryd.prog (spec_Of.c k)) : LoopTo Tryd.prog 29 (spec_Of.e5 k) (loopAt spec_Of.bd 0) := loop_to mixed hC (by kernel_rfl) (loops_all 0 (by kernel_rfl) fun i hi => absurd hi (Nat.not_lt_zero i)) fun a b h => ⟨k, (spec_Of.i5 k k a.1.1 a.1.2.2.1 a.2.1 a.2.2.1).trans h⟩
theorem spec_Of.link (k : Nat) (a0 : Int) : evFun (mkCx Tryd.prog (spec_Of.c k) (spec_Of.g k) : Cx Nm) Tryd.f29 ((spec_Of.e k).args.enc (a0, ())) (spec_Of.e k).ret.dec = spec_Of.f k a0 := by kernel_rfl
theorem spec_Of.ok1 (k : Nat) (hC : AllFun Tryd.prog (spec_Of.c k)) : Fun Tryd.prog 29 (spec_Of.e k).G := fun_ok mixed (body := spec_Of.bd) Tryd.func29 (by kernel_rfl) (by kernel_rfl) (by kernel_rfl) hC (loops_all 1 (by kernel_rfl) fun i hi => by obtain rfl : i = 0 := Nat.lt_one_iff.1 hi; exact ⟨spec_Of.e5 k, by kernel_rfl, spec_Of.to5 k hC⟩) (spec_Of.e k) (fun a => Nat.le_of_ble_eq_true (by kernel_rfl)) fun a b h => (spec_Of.link k a.1).trans h
theorem spec_Of.ok (k : Nat) : Fun Tryd.prog 29 (spec_Of.e k).G := spec_Of.ok1 k ⟨spec_l1Num.ok k, trivial⟩

noncomputable def spec_l3Text.f (k : Nat) (a0 : Int) : Option ByteArray :=
  (spec_Of.f k  a0).bind fun t1 => (spec_NumText.f k  t1).bind fun t2 => some t2
noncomputable def spec_l3Text.e (k : Nat) : FE := { α := Int × Unit, β := ByteArray, args := (lCons (aI .i64) lNil), ret := (rOne aStr), f := fun p => spec_l3Text.f k p.1 }
noncomputable def spec_l3Text.c (k : Nat) : List (Nat × CE) := [(29, .fn (spec_Of.e k)), (28, .fn (spec_NumText.e k))]
noncomputable def spec_l3Text.bd : Code := match Tryd.f16.body with | some c => c | none => .skip
noncomputable def spec_l3Text.g (k : Nat) : List (Nat × LE) := []
theorem spec_l3Text.link (k : Nat) (a0 : Int) : evFun (mkCx Tryd.prog (spec_l3Text.c k) (spec_l3Text.g k) : Cx ByteArray) Tryd.f16 ((spec_l3Text.e k).args.enc (a0, ())) (spec_l3Text.e k).ret.dec = spec_l3Text.f k a0 := by kernel_rfl
theorem spec_l3Text.ok1 (k : Nat) (hC : AllFun Tryd.prog (spec_l3Text.c k)) : Fun Tryd.prog 16 (spec_l3Text.e k).G := fun_ok mixed (body := spec_l3Text.bd) Tryd.func16 (by kernel_rfl) (by kernel_rfl) (by kernel_rfl) hC (loops_all 0 (by kernel_rfl) fun i hi => absurd hi (Nat.not_lt_zero i)) (spec_l3Text.e k) (fun a => Nat.le_of_ble_eq_true (by kernel_rfl)) fun a b h => (spec_l3Text.link k a.1).trans h
theorem spec_l3Text.ok (k : Nat) : Fun Tryd.prog 16 (spec_l3Text.e k).G := spec_l3Text.ok1 k ⟨spec_Of.ok k, spec_NumText.ok k, trivial⟩

noncomputable def spec_SpotText.f (k : Nat) (a0 : S4) : Option ByteArray :=
  (spec_SpotOk.f k  a0).bind fun t1 => if (!t1) = true then (some (⟨#[]⟩ : ByteArray)) else ((spec_l3Text.f k  a0.a).bind fun t2 => if lt47 (t2.size + (⟨#[32]⟩ : ByteArray).size) = true then ((spec_l3Text.f k  a0.b).bind fun t3 => if lt47 ((t2 ++ (⟨#[32]⟩ : ByteArray)).size + t3.size) = true then (if lt47 (((t2 ++ (⟨#[32]⟩ : ByteArray)) ++ t3).size + (⟨#[32]⟩ : ByteArray).size) = true then ((spec_l3Text.f k  a0.c).bind fun t4 => if lt47 ((((t2 ++ (⟨#[32]⟩ : ByteArray)) ++ t3) ++ (⟨#[32]⟩ : ByteArray)).size + t4.size) = true then (if lt47 (((((t2 ++ (⟨#[32]⟩ : ByteArray)) ++ t3) ++ (⟨#[32]⟩ : ByteArray)) ++ t4).size + (⟨#[32]⟩ : ByteArray).size) = true then ((spec_l3Text.f k  a0.d).bind fun t5 => if lt47 ((((((t2 ++ (⟨#[32]⟩ : ByteArray)) ++ t3) ++ (⟨#[32]⟩ : ByteArray)) ++ t4) ++ (⟨#[32]⟩ : ByteArray)).size + t5.size) = true then (some ((((((t2 ++ (⟨#[32]⟩ : ByteArray)) ++ t3) ++ (⟨#[32]⟩ : ByteArray)) ++ t4) ++ (⟨#[32]⟩ : ByteArray)) ++ t5)) else none) else none) else none) else none) else none) else none)
noncomputable def spec_SpotText.e (k : Nat) : FE := { α := S4 × Unit, β := ByteArray, args := (lCons aS4 lNil), ret := (rOne aStr), f := fun p => spec_SpotText.f k p.1 }
noncomputable def spec_SpotText.c (k : Nat) : List (Nat × CE) := [(15, .fn (spec_SpotOk.e k)), (16, .fn (spec_l3Text.e k))]
noncomputable def spec_SpotText.bd : Code := match Tryd.f6.body with | some c => c | none => .skip
noncomputable def spec_SpotText.g (k : Nat) : List (Nat × LE) := []
theorem spec_SpotText.link (k : Nat) (a0 : S4) : evFun (mkCx Tryd.prog (spec_SpotText.c k) (spec_SpotText.g k) : Cx ByteArray) Tryd.f6 ((spec_SpotText.e k).args.enc (a0, ())) (spec_SpotText.e k).ret.dec = spec_SpotText.f k a0 := by kernel_rfl
theorem spec_SpotText.ok1 (k : Nat) (hC : AllFun Tryd.prog (spec_SpotText.c k)) : Fun Tryd.prog 6 (spec_SpotText.e k).G := fun_ok mixed (body := spec_SpotText.bd) Tryd.func6 (by kernel_rfl) (by kernel_rfl) (by kernel_rfl) hC (loops_all 0 (by kernel_rfl) fun i hi => absurd hi (Nat.not_lt_zero i)) (spec_SpotText.e k) (fun a => Nat.le_of_ble_eq_true (by kernel_rfl)) fun a b h => (spec_SpotText.link k a.1).trans h
theorem spec_SpotText.ok (k : Nat) : Fun Tryd.prog 6 (spec_SpotText.e k).G := spec_SpotText.ok1 k ⟨spec_SpotOk.ok k, spec_l3Text.ok k, trivial⟩

noncomputable def laws_toSpot.f (k : Nat) (a0 : S4) : Option S4 :=
  some a0
noncomputable def laws_toSpot.e (k : Nat) : FE := { α := S4 × Unit, β := S4, args := (lCons aS4 lNil), ret := (rOne aS4), f := fun p => laws_toSpot.f k p.1 }
noncomputable def laws_toSpot.c (k : Nat) : List (Nat × CE) := []
noncomputable def laws_toSpot.bd : Code := match Tryd.f7.body with | some c => c | none => .skip
noncomputable def laws_toSpot.g (k : Nat) : List (Nat × LE) := []
theorem laws_toSpot.link (k : Nat) (a0 : S4) : evFun (mkCx Tryd.prog (laws_toSpot.c k) (laws_toSpot.g k) : Cx S4) Tryd.f7 ((laws_toSpot.e k).args.enc (a0, ())) (laws_toSpot.e k).ret.dec = laws_toSpot.f k a0 := by kernel_rfl
theorem laws_toSpot.ok1 (k : Nat) (hC : AllFun Tryd.prog (laws_toSpot.c k)) : Fun Tryd.prog 7 (laws_toSpot.e k).G := fun_ok mixed (body := laws_toSpot.bd) Tryd.func7 (by kernel_rfl) (by kernel_rfl) (by kernel_rfl) hC (loops_all 0 (by kernel_rfl) fun i hi => absurd hi (Nat.not_lt_zero i)) (laws_toSpot.e k) (fun a => Nat.le_of_ble_eq_true (by kernel_rfl)) fun a b h => (laws_toSpot.link k a.1).trans h
theorem laws_toSpot.ok (k : Nat) : Fun Tryd.prog 7 (laws_toSpot.e k).G := laws_toSpot.ok1 k trivial

noncomputable def impl_inRange.f (k : Nat) (a0 : Int) (a1 : Int) (a2 : Int) : Option Bool :=
  if (decide (a0 ≥ a1)) = true then (some (decide (a0 ≤ a2))) else (some false)
noncomputable def impl_inRange.e (k : Nat) : FE := { α := Int × Int × Int × Unit, β := Bool, args := (lCons (aI .i64) (lCons (aI .i64) (lCons (aI .i64) lNil))), ret := (rOne aB), f := fun p => impl_inRange.f k p.1 p.2.1 p.2.2.1 }
noncomputable def impl_inRange.c (k : Nat) : List (Nat × CE) := []
noncomputable def impl_inRange.bd : Code := match Tryd.f30.body with | some c => c | none => .skip
noncomputable def impl_inRange.g (k : Nat) : List (Nat × LE) := []
theorem impl_inRange.link (k : Nat) (a0 : Int) (a1 : Int) (a2 : Int) : evFun (mkCx Tryd.prog (impl_inRange.c k) (impl_inRange.g k) : Cx Bool) Tryd.f30 ((impl_inRange.e k).args.enc (a0, a1, a2, ())) (impl_inRange.e k).ret.dec = impl_inRange.f k a0 a1 a2 := by kernel_rfl
theorem impl_inRange.ok1 (k : Nat) (hC : AllFun Tryd.prog (impl_inRange.c k)) : Fun Tryd.prog 30 (impl_inRange.e k).G := fun_ok mixed (body := impl_inRange.bd) Tryd.func30 (by kernel_rfl) (by kernel_rfl) (by kernel_rfl) hC (loops_all 0 (by kernel_rfl) fun i hi => absurd hi (Nat.not_lt_zero i)) (impl_inRange.e k) (fun a => Nat.le_of_ble_eq_true (by kernel_rfl)) fun a b h => (impl_inRange.link k a.1 a.2.1 a.2.2.1).trans h
theorem impl_inRange.ok (k : Nat) : Fun Tryd.prog 30 (impl_inRange.e k).G := impl_inRange.ok1 k trivial

noncomputable def impl_divisor.H6 : Hd := ⟨[], [3, 5, 6, 7, 8], [], [], []⟩
@[reducible] def impl_divisor.A6 : Type := ((Int × Int × (List Int) × Int × Int × Unit) × (Unit))
noncomputable def impl_divisor.Z6 : SC impl_divisor.A6 := sC impl_divisor.H6 (eCons 3 (tP (aI .i64)) (eCons 5 (tP (aI .i64)) (eCons 6 (tP (aSl (.i .i64))) (eCons 7 (tP (aI .i64)) (eCons 8 (tP (aI .i64)) eNil))))) bNil
@[reducible] def impl_divisor.B6 : Type := ((Int × (List Int) × Int × Int × Unit) × (Unit))
noncomputable def impl_divisor.X6 : XC impl_divisor.B6 := xExit 2 (sC ⟨[], [3, 6, 7, 8], [], [], []⟩ (eCons 3 (tP (aI .i64)) (eCons 6 (tP (aSl (.i .i64))) (eCons 7 (tP (aI .i64)) (eCons 8 (tP (aI .i64)) eNil)))) bNil)
noncomputable def impl_divisor.s6 (k : Nat)  (J : Int → Int → (List Int) → Int → Int → Option impl_divisor.B6) (x3 : Int) (x5 : Int) (x6 : List Int) (x7 : Int) (x8 : Int) : Option impl_divisor.B6 :=
  if (x5 != 0) = true then (if x5 = 0 then none else (J x5 (x3.tmod x5) x6 x7 x8)) else (some ((x3, x6, x7, x8, ()), (())))
noncomputable def impl_divisor.l6 (k : Nat)  : Nat → Int → Int → (List Int) → Int → Int → Option impl_divisor.B6
  | 0, _, _, _, _, _ => none
  | n + 1, x3, x5, x6, x7, x8 => impl_divisor.s6 k (impl_divisor.l6 k n) x3 x5 x6 x7 x8
noncomputable def impl_divisor.H3 : Hd := ⟨[], [3, 6, 7, 8], [], [], []⟩
@[reducible] def impl_divisor.A3 : Type := ((Int × (List Int) × Int × Int × Unit) × (Unit))
noncomputable def impl_divisor.Z3 : SC impl_divisor.A3 := sC impl_divisor.H3 (eCons 3 (tP (aI .i64)) (eCons 6 (tP (aSl (.i .i64))) (eCons 7 (tP (aI .i64)) (eCons 8 (tP (aI .i64)) eNil)))) bNil
@[reducible] def impl_divisor.B3 : Type := ((Int × Unit) × (Unit))
noncomputable def impl_divisor.X3 : XC impl_divisor.B3 := xExit 0 (sC ⟨[], [3], [], [], []⟩ (eCons 3 (tP (aI .i64)) eNil) bNil)
noncomputable def impl_divisor.s3 (k : Nat)  (J : Int → (List Int) → Int → Int → Option impl_divisor.B3) (x3 : Int) (x6 : List Int) (x7 : Int) (x8 : Int) : Option impl_divisor.B3 :=
  if (decide (x8 < x7)) = true then (if 0 ≤ x8 then (if x8 < (x6.length : Int) then ((impl_divisor.l6 k k x3 (if (W (0 - (rd x6 x8))) > (rd x6 x8) then (W (0 - (rd x6 x8))) else (rd x6 x8)) x6 x7 x8).bind fun x1 => J x1.1.1 x1.1.2.1 x1.1.2.2.1 (W (x1.1.2.2.2.1 + 1))) else none) else none) else (some ((x3, ()), (())))
noncomputable def impl_divisor.l3 (k : Nat)  : Nat → Int → (List Int) → Int → Int → Option impl_divisor.B3
  | 0, _, _, _, _ => none
  | n + 1, x3, x6, x7, x8 => impl_divisor.s3 k (impl_divisor.l3 k n) x3 x6 x7 x8
noncomputable def impl_divisor.f (k : Nat) (a0 : List Int) : Option Int :=
  (impl_divisor.l3 k k 0 a0 (a0.length : Int) 0).bind fun x2 => some x2.1.1
noncomputable def impl_divisor.e (k : Nat) : FE := { α := (List Int) × Unit, β := Int, args := (lCons (aSl (.i .i64)) lNil), ret := (rOne (aI .i64)), f := fun p => impl_divisor.f k p.1 }
noncomputable def impl_divisor.c (k : Nat) : List (Nat × CE) := []
noncomputable def impl_divisor.bd : Code := match Tryd.f31.body with | some c => c | none => .skip
noncomputable def impl_divisor.e6 (k : Nat) : LE := { H := impl_divisor.H6, α := impl_divisor.A6, β := impl_divisor.B6, st := impl_divisor.Z6, xt := impl_divisor.X6, f := fun p => impl_divisor.l6 k k p.1.1 p.1.2.1 p.1.2.2.1 p.1.2.2.2.1 p.1.2.2.2.2.1 }
noncomputable def impl_divisor.e3 (k : Nat) : LE := { H := impl_divisor.H3, α := impl_divisor.A3, β := impl_divisor.B3, st := impl_divisor.Z3, xt := impl_divisor.X3, f := fun p => impl_divisor.l3 k k p.1.1 p.1.2.1 p.1.2.2.1 p.1.2.2.2.1 }
noncomputable def impl_divisor.g (k : Nat) : List (Nat × LE) := [(6, impl_divisor.e6 k), (3, impl_divisor.e3 k)]
theorem impl_divisor.t6 (k : Nat) (I : S2 → Option impl_divisor.B6) (x3 : Int) (x5 : Int) (x6 : List Int) (x7 : Int) (x8 : Int) : stepOf (mkCx Tryd.prog (impl_divisor.c k) (impl_divisor.g k) : Cx impl_divisor.B6) (loopAt (loopAt impl_divisor.bd 0) 0) impl_divisor.H6 impl_divisor.X6.dec I (impl_divisor.Z6.enc ((x3, x5, x6, x7, x8, ()), (()))) = impl_divisor.s6 k (fun x3 x5 x6 x7 x8 => I (impl_divisor.Z6.enc ((x3, x5, x6, x7, x8, ()), (())))) x3 x5 x6 x7 x8 := by kernel_rfl
theorem impl_divisor.i6 (k : Nat) : ∀ (n : Nat) (x3 : Int) (x5 : Int) (x6 : List Int) (x7 : Int) (x8 : Int), iter (evCode (mkCx Tryd.prog (impl_divisor.c k) (impl_divisor.g k) : Cx impl_divisor.B6) (loopAt (loopAt impl_divisor.bd 0) 0)) impl_divisor.H6 impl_divisor.X6.dec n (impl_divisor.Z6.enc ((x3, x5, x6, x7, x8, ()), (()))) = impl_divisor.l6 k n x3 x5 x6 x7 x8
  | 0, _, _, _, _, _ => rfl
  | n + 1, x3, x5, x6, x7, x8 => ((iter_step _ _ _ _ n _).trans (impl_divisor.t6 k _ x3 x5 x6 x7 x8)).trans (congrArg (fun J => impl_divisor.s6 k J x3 x5 x6 x7 x8) (funext fun x3 => funext fun x5 => funext fun x6 => funext fun x7 => funext fun x8 => impl_divisor.i6 k n x3 x5 x6 x7 x8))
theorem impl_divisor.t3 (k : Nat) (I : S2 → Option impl_divisor.B3) (x3 : Int) (x6 : List Int) (x7 : Int) (x8 : Int) : stepOf (mkCx Tryd.prog (impl_divisor.c k) (impl_divisor.g k) : Cx impl_divisor.B3) (loopAt impl_divisor.bd 0) impl_divisor.H3 impl_divisor.X3.dec I (impl_divisor.Z3.enc ((x3, x6, x7, x8, ()), (()))) = impl_divisor.s3 k (fun x3 x6 x7 x8 => I (impl_divisor.Z3.enc ((x3, x6, x7, x8, ()), (())))) x3 x6 x7 x8 := by kernel_rfl
theorem impl_divisor.i3 (k : Nat) : ∀ (n : Nat) (x3 : Int) (x6 : List Int) (x7 : Int) (x8 : Int), iter (evCode (mkCx Tryd.prog (impl_divisor.c k) (impl_divisor.g k) : Cx impl_divisor.B3) (loopAt impl_divisor.bd 0)) impl_divisor.H3 impl_divisor.X3.dec n (impl_divisor.Z3.enc ((x3, x6, x7, x8, ()), (()))) = impl_divisor.l3 k n x3 x6 x7 x8
  | 0, _, _, _, _ => rfl
  | n + 1, x3, x6, x7, x8 => ((iter_step _ _ _ _ n _).trans (impl_divisor.t3 k _ x3 x6 x7 x8)).trans (congrArg (fun J => impl_divisor.s3 k J x3 x6 x7 x8) (funext fun x3 => funext fun x6 => funext fun x7 => funext fun x8 => impl_divisor.i3 k n x3 x6 x7 x8))
theorem impl_divisor.to6 (k : Nat) (hC : AllFun Tryd.prog (impl_divisor.c k)) : LoopTo Tryd.prog 24 (impl_divisor.e6 k) (loopAt (loopAt impl_divisor.bd 0) 0) := loop_to mixed hC (by kernel_rfl) (loops_all 0 (by kernel_rfl) fun i hi => absurd hi (Nat.not_lt_zero i)) fun a b h => ⟨k, (impl_divisor.i6 k k a.1.1 a.1.2.1 a.1.2.2.1 a.1.2.2.2.1 a.1.2.2.2.2.1).trans h⟩
theorem impl_divisor.to3 (k : Nat) (hC : AllFun Tryd.prog (impl_divisor.c k)) : LoopTo Tryd.prog 24 (impl_divisor.e3 k) (loopAt impl_divisor.bd 0) := loop_to mixed hC (by kernel_rfl) (loops_all 1 (by kernel_rfl) fun i hi => by obtain rfl : i = 0 := Nat.lt_one_iff.1 hi; exact ⟨impl_divisor.e6 k, by kernel_rfl, impl_divisor.to6 k hC⟩) fun a b h => ⟨k, (impl_divisor.i3 k k a.1.1 a.1.2.1 a.1.2.2.1 a.1.2.2.2.1).trans h⟩
theorem impl_divisor.link (k : Nat) (a0 : List Int) : evFun (mkCx Tryd.prog (impl_divisor.c k) (impl_divisor.g k) : Cx Int) Tryd.f31 ((impl_divisor.e k).args.enc (a0, ())) (impl_divisor.e k).ret.dec = impl_divisor.f k a0 := by kernel_rfl
theorem impl_divisor.ok1 (k : Nat) (hC : AllFun Tryd.prog (impl_divisor.c k)) : Fun Tryd.prog 31 (impl_divisor.e k).G := fun_ok mixed (body := impl_divisor.bd) Tryd.func31 (by kernel_rfl) (by kernel_rfl) (by kernel_rfl) hC (loops_all 1 (by kernel_rfl) fun i hi => by obtain rfl : i = 0 := Nat.lt_one_iff.1 hi; exact ⟨impl_divisor.e3 k, by kernel_rfl, impl_divisor.to3 k hC⟩) (impl_divisor.e k) (fun a => Nat.le_of_ble_eq_true (by kernel_rfl)) fun a b h => (impl_divisor.link k a.1).trans h
theorem impl_divisor.ok (k : Nat) : Fun Tryd.prog 31 (impl_divisor.e k).G := impl_divisor.ok1 k trivial

noncomputable def impl_SpotOk.H4 : Hd := ⟨[], [1, 15, 16], [1], [], []⟩
@[reducible] def impl_SpotOk.A4 : Type := ((Unit × S3 × Int × Unit) × (S4 × Unit))
noncomputable def impl_SpotOk.Z4 : SC impl_SpotOk.A4 := sC impl_SpotOk.H4 (eCons 1 (tRef 1 0) (eCons 15 (tP aS3) (eCons 16 (tP (aI .i64)) eNil))) (bCons 1 (xVr cS4) bNil)
@[reducible] def impl_SpotOk.B4 : Type := ((Bool × Unit) × (Unit)) ⊕ ((Unit × Unit) × (S4 × Unit))
noncomputable def impl_SpotOk.X4 : XC impl_SpotOk.B4 := xOr (xRet (sC ⟨[], [2], [], [], []⟩ (eCons 2 (tP aB) eNil) bNil)) (xExit 0 (sC ⟨[], [1], [1], [], []⟩ (eCons 1 (tRef 1 0) eNil) (bCons 1 (xVr cS4) bNil)))
noncomputable def impl_SpotOk.s4 (k : Nat)  (J : S3 → Int → S4 → Option impl_SpotOk.B4) (x15 : S3) (x16 : Int) (b1 : S4) : Option impl_SpotOk.B4 :=
  if (decide (x16 < 3)) = true then (if 0 ≤ x16 then (if x16 < 3 then ((impl_inRange.f k  (sel [x15.x, x15.y, x15.z] x16) (-1000000000) 1000000000).bind fun t2 => if (!t2) = true then (some (.inl ((false, ()), (())))) else (J x15 (W (x16 + 1)) b1)) else none) else none) else (some (.inr (((), ()), (b1, ()))))
noncomputable def impl_SpotOk.l4 (k : Nat)  : Nat → S3 → Int → S4 → Option impl_SpotOk.B4
  | 0, _, _, _ => none
  | n + 1, x15, x16, b1 => impl_SpotOk.s4 k (impl_SpotOk.l4 k n) x15 x16 b1
noncomputable def impl_SpotOk.f (k : Nat) (a0 : S4) : Option Bool :=
  (impl_inRange.f k  a0.d 1 1000000000).bind fun t1 => if (!t1) = true then (some false) else ((impl_SpotOk.l4 k k (⟨a0.a, a0.b, a0.c⟩ : S3) 0 a0).bind fun | .inl r3 => (some r3.1.1) | .inr x4 => ((impl_divisor.f k  ([x4.2.1.a, x4.2.1.b, x4.2.1.c, x4.2.1.d] : List Int)).bind fun t5 => some (t5 == 1)))
noncomputable def impl_SpotOk.e (k : Nat) : FE := { α := S4 × Unit, β := Bool, args := (lCons aS4 lNil), ret := (rOne aB), f := fun p => impl_SpotOk.f k p.1 }
noncomputable def impl_SpotOk.c (k : Nat) : List (Nat × CE) := [(30, .fn (impl_inRange.e k)), (31, .fn (impl_divisor.e k))]
noncomputable def impl_SpotOk.bd : Code := match Tryd.f17.body with | some c => c | none => .skip
noncomputable def impl_SpotOk.e4 (k : Nat) : LE := { H := impl_SpotOk.H4, α := impl_SpotOk.A4, β := impl_SpotOk.B4, st := impl_SpotOk.Z4, xt := impl_SpotOk.X4, f := fun p => impl_SpotOk.l4 k k p.1.2.1 p.1.2.2.1 p.2.1 }
noncomputable def impl_SpotOk.g (k : Nat) : List (Nat × LE) := [(4, impl_SpotOk.e4 k)]
theorem impl_SpotOk.t4 (k : Nat) (I : S2 → Option impl_SpotOk.B4) (x15 : S3) (x16 : Int) (b1 : S4) : stepOf (mkCx Tryd.prog (impl_SpotOk.c k) (impl_SpotOk.g k) : Cx impl_SpotOk.B4) (loopAt impl_SpotOk.bd 0) impl_SpotOk.H4 impl_SpotOk.X4.dec I (impl_SpotOk.Z4.enc (((), x15, x16, ()), (b1, ()))) = impl_SpotOk.s4 k (fun x15 x16 b1 => I (impl_SpotOk.Z4.enc (((), x15, x16, ()), (b1, ())))) x15 x16 b1 := by kernel_rfl
theorem impl_SpotOk.i4 (k : Nat) : ∀ (n : Nat) (x15 : S3) (x16 : Int) (b1 : S4), iter (evCode (mkCx Tryd.prog (impl_SpotOk.c k) (impl_SpotOk.g k) : Cx impl_SpotOk.B4) (loopAt impl_SpotOk.bd 0)) impl_SpotOk.H4 impl_SpotOk.X4.dec n (impl_SpotOk.Z4.enc (((), x15, x16, ()), (b1, ()))) = impl_SpotOk.l4 k n x15 x16 b1
  | 0, _, _, _ => rfl
  | n + 1, x15, x16, b1 => ((iter_step _ _ _ _ n _).trans (impl_SpotOk.t4 k _ x15 x16 b1)).trans (congrArg (fun J => impl_SpotOk.s4 k J x15 x16 b1) (funext fun x15 => funext fun x16 => funext fun b1 => impl_SpotOk.i4 k n x15 x16 b1))
theorem impl_SpotOk.to4 (k : Nat) (hC : AllFun Tryd.prog (impl_SpotOk.c k)) : LoopTo Tryd.prog 34 (impl_SpotOk.e4 k) (loopAt impl_SpotOk.bd 0) := loop_to mixed hC (by kernel_rfl) (loops_all 0 (by kernel_rfl) fun i hi => absurd hi (Nat.not_lt_zero i)) fun a b h => ⟨k, (impl_SpotOk.i4 k k a.1.2.1 a.1.2.2.1 a.2.1).trans h⟩
theorem impl_SpotOk.link (k : Nat) (a0 : S4) : evFun (mkCx Tryd.prog (impl_SpotOk.c k) (impl_SpotOk.g k) : Cx Bool) Tryd.f17 ((impl_SpotOk.e k).args.enc (a0, ())) (impl_SpotOk.e k).ret.dec = impl_SpotOk.f k a0 := by kernel_rfl
theorem impl_SpotOk.ok1 (k : Nat) (hC : AllFun Tryd.prog (impl_SpotOk.c k)) : Fun Tryd.prog 17 (impl_SpotOk.e k).G := fun_ok mixed (body := impl_SpotOk.bd) Tryd.func17 (by kernel_rfl) (by kernel_rfl) (by kernel_rfl) hC (loops_all 1 (by kernel_rfl) fun i hi => by obtain rfl : i = 0 := Nat.lt_one_iff.1 hi; exact ⟨impl_SpotOk.e4 k, by kernel_rfl, impl_SpotOk.to4 k hC⟩) (impl_SpotOk.e k) (fun a => Nat.le_of_ble_eq_true (by kernel_rfl)) fun a b h => (impl_SpotOk.link k a.1).trans h
theorem impl_SpotOk.ok (k : Nat) : Fun Tryd.prog 17 (impl_SpotOk.e k).G := impl_SpotOk.ok1 k ⟨impl_inRange.ok k, impl_divisor.ok k, trivial⟩

theorem strconv_Itoa.ok (k : Nat) : Fun Tryd.prog 18 (strconv_Itoa.e k).G := strconv_Itoa.okW k

theorem strings_Join.ok (k : Nat) : Fun Tryd.prog 19 (strings_Join.e k).G := strings_Join.okW k

noncomputable def impl_SpotText.H5 : Hd := ⟨[(3, 9, .str)], [3, 17, 18], [], [], []⟩
@[reducible] def impl_SpotText.A5 : Type := ((Unit × S4 × Int × Unit) × ((List ByteArray) × Unit))
noncomputable def impl_SpotText.Z5 : SC impl_SpotText.A5 := sC impl_SpotText.H5 (eCons 3 (tOsl 1000003) (eCons 17 (tP aS4) (eCons 18 (tP (aI .i64)) eNil))) (bCons 1000003 (xRow 9 .str) bNil)
@[reducible] def impl_SpotText.B5 : Type := ((Unit × Unit) × ((List ByteArray) × Unit))
noncomputable def impl_SpotText.X5 : XC impl_SpotText.B5 := xExit 0 (sC ⟨[], [3], [], [], []⟩ (eCons 3 (tOsl 1000003) eNil) (bCons 1000003 (xRow 9 .str) bNil))
noncomputable def impl_SpotText.s5 (k : Nat)  (J : S4 → Int → (List ByteArray) → Option impl_SpotText.B5) (x17 : S4) (x18 : Int) (b1000003 : List ByteArray) : Option impl_SpotText.B5 :=
  if (decide (x18 < 4)) = true then (if 0 ≤ x18 then (if x18 < 4 then ((strconv_Itoa.f k  (sel [x17.a, x17.b, x17.c, x17.d] x18)).bind fun t2 => if lt47 (b1000003.length + ([t2] : List ByteArray).length) = true then (J x17 (W (x18 + 1)) (b1000003 ++ ([t2] : List ByteArray))) else none) else none) else none) else (some (((), ()), (b1000003, ())))
noncomputable def impl_SpotText.l5 (k : Nat)  : Nat → S4 → Int → (List ByteArray) → Option impl_SpotText.B5
  | 0, _, _, _ => none
  | n + 1, x17, x18, b1000003 => impl_SpotText.s5 k (impl_SpotText.l5 k n) x17 x18 b1000003
noncomputable def impl_SpotText.f (k : Nat) (a0 : S4) : Option ByteArray :=
  (impl_SpotOk.f k  a0).bind fun t1 => if (!t1) = true then (some (⟨#[]⟩ : ByteArray)) else ((impl_SpotText.l5 k k a0 0 ([] : List ByteArray)).bind fun x3 => (strings_Join.f k  x3.2.1 (⟨#[32]⟩ : ByteArray)).bind fun t4 => some t4)
noncomputable def impl_SpotText.e (k : Nat) : FE := { α := S4 × Unit, β := ByteArray, args := (lCons aS4 lNil), ret := (rOne aStr), f := fun p => impl_SpotText.f k p.1 }
noncomputable def impl_SpotText.c (k : Nat) : List (Nat × CE) := [(17, .fn (impl_SpotOk.e k)), (18, .fn (strconv_Itoa.e k)), (19, .fn (strings_Join.e k))]
noncomputable def impl_SpotText.bd : Code := match Tryd.f8.body with | some c => c | none => .skip
noncomputable def impl_SpotText.e5 (k : Nat) : LE := { H := impl_SpotText.H5, α := impl_SpotText.A5, β := impl_SpotText.B5, st := impl_SpotText.Z5, xt := impl_SpotText.X5, f := fun p => impl_SpotText.l5 k k p.1.2.1 p.1.2.2.1 p.2.1 }
noncomputable def impl_SpotText.g (k : Nat) : List (Nat × LE) := [(5, impl_SpotText.e5 k)]
theorem impl_SpotText.t5 (k : Nat) (I : S2 → Option impl_SpotText.B5) (x17 : S4) (x18 : Int) (b1000003 : List ByteArray) : stepOf (mkCx Tryd.prog (impl_SpotText.c k) (impl_SpotText.g k) : Cx impl_SpotText.B5) (loopAt impl_SpotText.bd 0) impl_SpotText.H5 impl_SpotText.X5.dec I (impl_SpotText.Z5.enc (((), x17, x18, ()), (b1000003, ()))) = impl_SpotText.s5 k (fun x17 x18 b1000003 => I (impl_SpotText.Z5.enc (((), x17, x18, ()), (b1000003, ())))) x17 x18 b1000003 := by kernel_rfl
theorem impl_SpotText.i5 (k : Nat) : ∀ (n : Nat) (x17 : S4) (x18 : Int) (b1000003 : List ByteArray), iter (evCode (mkCx Tryd.prog (impl_SpotText.c k) (impl_SpotText.g k) : Cx impl_SpotText.B5) (loopAt impl_SpotText.bd 0)) impl_SpotText.H5 impl_SpotText.X5.dec n (impl_SpotText.Z5.enc (((), x17, x18, ()), (b1000003, ()))) = impl_SpotText.l5 k n x17 x18 b1000003
  | 0, _, _, _ => rfl
  | n + 1, x17, x18, b1000003 => ((iter_step _ _ _ _ n _).trans (impl_SpotText.t5 k _ x17 x18 b1000003)).trans (congrArg (fun J => impl_SpotText.s5 k J x17 x18 b1000003) (funext fun x17 => funext fun x18 => funext fun b1000003 => impl_SpotText.i5 k n x17 x18 b1000003))
theorem impl_SpotText.to5 (k : Nat) (hC : AllFun Tryd.prog (impl_SpotText.c k)) : LoopTo Tryd.prog 29 (impl_SpotText.e5 k) (loopAt impl_SpotText.bd 0) := loop_to mixed hC (by kernel_rfl) (loops_all 0 (by kernel_rfl) fun i hi => absurd hi (Nat.not_lt_zero i)) fun a b h => ⟨k, (impl_SpotText.i5 k k a.1.2.1 a.1.2.2.1 a.2.1).trans h⟩
theorem impl_SpotText.link (k : Nat) (a0 : S4) : evFun (mkCx Tryd.prog (impl_SpotText.c k) (impl_SpotText.g k) : Cx ByteArray) Tryd.f8 ((impl_SpotText.e k).args.enc (a0, ())) (impl_SpotText.e k).ret.dec = impl_SpotText.f k a0 := by kernel_rfl
theorem impl_SpotText.ok1 (k : Nat) (hC : AllFun Tryd.prog (impl_SpotText.c k)) : Fun Tryd.prog 8 (impl_SpotText.e k).G := fun_ok mixed (body := impl_SpotText.bd) Tryd.func8 (by kernel_rfl) (by kernel_rfl) (by kernel_rfl) hC (loops_all 1 (by kernel_rfl) fun i hi => by obtain rfl : i = 0 := Nat.lt_one_iff.1 hi; exact ⟨impl_SpotText.e5 k, by kernel_rfl, impl_SpotText.to5 k hC⟩) (impl_SpotText.e k) (fun a => Nat.le_of_ble_eq_true (by kernel_rfl)) fun a b h => (impl_SpotText.link k a.1).trans h
theorem impl_SpotText.ok (k : Nat) : Fun Tryd.prog 8 (impl_SpotText.e k).G := impl_SpotText.ok1 k ⟨impl_SpotOk.ok k, strconv_Itoa.ok k, strings_Join.ok k, trivial⟩

noncomputable def laws_FnExactSpotText.f (k : Nat) (a0 : S4) : Option Bool :=
  (laws_toSpot.f k  a0).bind fun t1 => (spec_SpotText.f k  t1).bind fun t2 => (laws_toSpot.f k  a0).bind fun t3 => (impl_SpotText.f k  t3).bind fun t4 => if (!(t4.toList == t2.toList)) = true then (some false) else (some true)
noncomputable def laws_FnExactSpotText.e (k : Nat) : FE := { α := S4 × Unit, β := Bool, args := (lCons aS4 lNil), ret := (rOne aB), f := fun p => laws_FnExactSpotText.f k p.1 }
noncomputable def laws_FnExactSpotText.c (k : Nat) : List (Nat × CE) := [(7, .fn (laws_toSpot.e k)), (6, .fn (spec_SpotText.e k)), (8, .fn (impl_SpotText.e k))]
noncomputable def laws_FnExactSpotText.bd : Code := match Tryd.f3.body with | some c => c | none => .skip
noncomputable def laws_FnExactSpotText.g (k : Nat) : List (Nat × LE) := []
theorem laws_FnExactSpotText.link (k : Nat) (a0 : S4) : evFun (mkCx Tryd.prog (laws_FnExactSpotText.c k) (laws_FnExactSpotText.g k) : Cx Bool) Tryd.f3 ((laws_FnExactSpotText.e k).args.enc (a0, ())) (laws_FnExactSpotText.e k).ret.dec = laws_FnExactSpotText.f k a0 := by kernel_rfl
theorem laws_FnExactSpotText.ok1 (k : Nat) (hC : AllFun Tryd.prog (laws_FnExactSpotText.c k)) : Fun Tryd.prog 3 (laws_FnExactSpotText.e k).G := fun_ok mixed (body := laws_FnExactSpotText.bd) Tryd.func3 (by kernel_rfl) (by kernel_rfl) (by kernel_rfl) hC (loops_all 0 (by kernel_rfl) fun i hi => absurd hi (Nat.not_lt_zero i)) (laws_FnExactSpotText.e k) (fun a => Nat.le_of_ble_eq_true (by kernel_rfl)) fun a b h => (laws_FnExactSpotText.link k a.1).trans h
theorem laws_FnExactSpotText.ok (k : Nat) : Fun Tryd.prog 3 (laws_FnExactSpotText.e k).G := laws_FnExactSpotText.ok1 k ⟨laws_toSpot.ok k, spec_SpotText.ok k, impl_SpotText.ok k, trivial⟩

noncomputable def spec_l3In.f (k : Nat) (a0 : S4) : Option Bool :=
  (spec_l1In.f k  a0.a (W (0 - 500)) 500).bind fun t1 => if t1 = true then ((spec_l1In.f k  a0.b (W (0 - 500)) 500).bind fun t2 => if t2 = true then ((spec_l1In.f k  a0.c (W (0 - 500)) 500).bind fun t3 => if t3 = true then ((spec_l1In.f k  a0.d (W (0 - 500)) 500).bind fun t4 => some t4) else (some false)) else (some false)) else (some false)
noncomputable def spec_l3In.e (k : Nat) : FE := { α := S4 × Unit, β := Bool, args := (lCons aS4 lNil), ret := (rOne aB), f := fun p => spec_l3In.f k p.1 }
noncomputable def spec_l3In.c (k : Nat) : List (Nat × CE) := [(26, .fn (spec_l1In.e k))]
noncomputable def spec_l3In.bd : Code := match Tryd.f36.body with | some c => c | none => .skip
noncomputable def spec_l3In.g (k : Nat) : List (Nat × LE) := []
theorem spec_l3In.link (k : Nat) (a0 : S4) : evFun (mkCx Tryd.prog (spec_l3In.c k) (spec_l3In.g k) : Cx Bool) Tryd.f36 ((spec_l3In.e k).args.enc (a0, ())) (spec_l3In.e k).ret.dec = spec_l3In.f k a0 := by kernel_rfl
theorem spec_l3In.ok1 (k : Nat) (hC : AllFun Tryd.prog (spec_l3In.c k)) : Fun Tryd.prog 36 (spec_l3In.e k).G := fun_ok mixed (body := spec_l3In.bd) Tryd.func36 (by kernel_rfl) (by kernel_rfl) (by kernel_rfl) hC (loops_all 0 (by kernel_rfl) fun i hi => absurd hi (Nat.not_lt_zero i)) (spec_l3In.e k) (fun a => Nat.le_of_ble_eq_true (by kernel_rfl)) fun a b h => (spec_l3In.link k a.1).trans h
theorem spec_l3In.ok (k : Nat) : Fun Tryd.prog 36 (spec_l3In.e k).G := spec_l3In.ok1 k ⟨spec_l1In.ok k, trivial⟩

end Go.Proofs.YtalkkenkeilmpaaDoor.G
