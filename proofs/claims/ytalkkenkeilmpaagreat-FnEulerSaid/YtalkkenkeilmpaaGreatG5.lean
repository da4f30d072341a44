/- Go functions told as plain Lean functions; that the code does what these tell. Printed by a program of the session (evp.py). -/
import Derived.Test.YtalkkenkeilmpaaGreatEv16
import Derived.Test.YtalkkenkeilmpaaGreatG4
namespace Go.Proofs.YtalkkenkeilmpaaGreat.G
open Go Go.RowKit Go.Proofs Go.Proofs.YtalkkenkeilmpaaGreat.Ev
set_option linter.unusedVariables false
set_option maxRecDepth 100000

noncomputable def spec_l3Gcd.H3 : Hd := ⟨[], [0, 1], [], [], []⟩
@[reducible] def spec_l3Gcd.A3 : Type := ((Int × Int × Unit) × (Unit))
noncomputable def spec_l3Gcd.Z3 : SC spec_l3Gcd.A3 := sC spec_l3Gcd.H3 (eCons 0 (tP (aI .i64)) (eCons 1 (tP (aI .i64)) eNil)) bNil
@[reducible] def spec_l3Gcd.B3 : Type := ((Int × Unit) × (Unit))
noncomputable def spec_l3Gcd.X3 : XC spec_l3Gcd.B3 := xExit 0 (sC ⟨[], [0], [], [], []⟩ (eCons 0 (tP (aI .i64)) eNil) bNil)
noncomputable def spec_l3Gcd.s3 (k : Nat)  (J : Int → Int → Option spec_l3Gcd.B3) (x0 : Int) (x1 : Int) : Option spec_l3Gcd.B3 :=
  if (decide (x1 > 0)) = true then (if x1 = 0 then none else (J x1 (x0.tmod x1))) else (some ((x0, ()), (())))
noncomputable def spec_l3Gcd.l3 (k : Nat)  : Nat → Int → Int → Option spec_l3Gcd.B3
  | 0, _, _ => none
  | n + 1, x0, x1 => spec_l3Gcd.s3 k (spec_l3Gcd.l3 k n) x0 x1
noncomputable def spec_l3Gcd.f (k : Nat) (a0 : Int) (a1 : Int) : Option Int :=
  (spec_l3Abs.f k  a0).bind fun t1 => (spec_l3Abs.f k  a1).bind fun t2 => (spec_l3Gcd.l3 k k t1 t2).bind fun x3 => some x3.1.1
noncomputable def spec_l3Gcd.e (k : Nat) : FE := { α := Int × Int × Unit, β := Int, args := (lCons (aI .i64) (lCons (aI .i64) lNil)), ret := (rOne (aI .i64)), f := fun p => spec_l3Gcd.f k p.1 p.2.1 }
noncomputable def spec_l3Gcd.c (k : Nat) : List (Nat × CE) := [(93, .fn (spec_l3Abs.e k))]
noncomputable def spec_l3Gcd.bd : Code := match Tryz.f99.body with | some c => c | none => .skip
noncomputable def spec_l3Gcd.e3 (k : Nat) : LE := { H := spec_l3Gcd.H3, α := spec_l3Gcd.A3, β := spec_l3Gcd.B3, st := spec_l3Gcd.Z3, xt := spec_l3Gcd.X3, f := fun p => spec_l3Gcd.l3 k k p.1.1 p.1.2.1 }
noncomputable def spec_l3Gcd.g (k : Nat) : List (Nat × LE) := [(3, spec_l3Gcd.e3 k)]
theorem spec_l3Gcd.t3 (k : Nat) (I : S2 → Option spec_l3Gcd.B3) (x0 : Int) (x1 : Int) : stepOf (mkCx Tryz.prog (spec_l3Gcd.c k) (spec_l3Gcd.g k) : Cx spec_l3Gcd.B3) (loopAt spec_l3Gcd.bd 0) spec_l3Gcd.H3 spec_l3Gcd.X3.dec I (spec_l3Gcd.Z3.enc ((x0, x1, ()), (()))) = spec_l3Gcd.s3 k (fun x0 x1 => I (spec_l3Gcd.Z3.enc ((x0, x1, ()), (())))) x0 x1 := by kernel_rfl
theorem spec_l3Gcd.i3 (k : Nat) : ∀ (n : Nat) (x0 : Int) (x1 : Int), iter (evCode (mkCx Tryz.prog (spec_l3Gcd.c k) (spec_l3Gcd.g k) : Cx spec_l3Gcd.B3) (loopAt spec_l3Gcd.bd 0)) spec_l3Gcd.H3 spec_l3Gcd.X3.dec n (spec_l3Gcd.Z3.enc ((x0, x1, ()), (()))) = spec_l3Gcd.l3 k n x0 x1
  | 0, _, _ => rfl
  | n + 1, x0, x1 => ((iter_step _ _ _ _ n _).trans (spec_l3Gcd.t3 k _ x0 x1)).trans (congrArg (fun J => spec_l3Gcd.s3 k J x0 x1) (funext fun x0 => funext fun x1 => spec_l3Gcd.i3 k n x0 x1))
theorem spec_l3Gcd.to3 (k : Nat) (hC : AllFun Tryz.prog (spec_l3Gcd.c k)) : LoopTo Tryz.prog 18 (spec_l3Gcd.e3 k) (loopAt spec_l3Gcd.bd 0) := loop_to mixed hC (by kernel_rfl) (loops_all 0 (by kernel_rfl) fun i hi => absurd hi (Nat.not_lt_zero i)) fun a b h => ⟨k, (spec_l3Gcd.i3 k k a.1.1 a.1.2.1).trans h⟩
theorem spec_l3Gcd.link (k : Nat) (a0 : Int) (a1 : Int) : evFun (mkCx Tryz.prog (spec_l3Gcd.c k) (spec_l3Gcd.g k) : Cx Int) Tryz.f99 ((spec_l3Gcd.e k).args.enc (a0, a1, ())) (spec_l3Gcd.e k).ret.dec = spec_l3Gcd.f k a0 a1 := by kernel_rfl
theorem spec_l3Gcd.ok1 (k : Nat) (hC : AllFun Tryz.prog (spec_l3Gcd.c k)) : Fun Tryz.prog 99 (spec_l3Gcd.e k).G := fun_ok mixed (body := spec_l3Gcd.bd) Tryz.func99 (by kernel_rfl) (by kernel_rfl) (by kernel_rfl) hC (loops_all 1 (by kernel_rfl) fun i hi => by obtain rfl : i = 0 := Nat.lt_one_iff.1 hi; exact ⟨spec_l3Gcd.e3 k, by kernel_rfl, spec_l3Gcd.to3 k hC⟩) (spec_l3Gcd.e k) (fun a => Nat.le_of_ble_eq_true (by kernel_rfl)) fun a b h => (spec_l3Gcd.link k a.1 a.2.1).trans h
theorem spec_l3Gcd.ok (k : Nat) : Fun Tryz.prog 99 (spec_l3Gcd.e k).G := spec_l3Gcd.ok1 k ⟨spec_l3Abs.ok k, trivial⟩

noncomputable def spec_PlaneOk.f (k : Nat) (a0 : S4) : Option Bool :=
  (spec_l3In.f k  a0).bind fun t1 => if t1 = true then (if (a0.a != 0) = true then ((spec_l3Gcd.f k  a0.a a0.b).bind fun t2 => (spec_l3Gcd.f k  a0.c a0.d).bind fun t3 => (spec_l3Gcd.f k  t2 t3).bind fun t4 => some (t4 == 1)) else (if (a0.b != 0) = true then ((spec_l3Gcd.f k  a0.a a0.b).bind fun t5 => (spec_l3Gcd.f k  a0.c a0.d).bind fun t6 => (spec_l3Gcd.f k  t5 t6).bind fun t7 => some (t7 == 1)) else (if (a0.c != 0) = true then ((spec_l3Gcd.f k  a0.a a0.b).bind fun t8 => (spec_l3Gcd.f k  a0.c a0.d).bind fun t9 => (spec_l3Gcd.f k  t8 t9).bind fun t10 => some (t10 == 1)) else (some false)))) else (some false)
noncomputable def spec_PlaneOk.e (k : Nat) : FE := { α := S4 × Unit, β := Bool, args := (lCons aS4 lNil), ret := (rOne aB), f := fun p => spec_PlaneOk.f k p.1 }
noncomputable def spec_PlaneOk.c (k : Nat) : List (Nat × CE) := [(98, .fn (spec_l3In.e k)), (99, .fn (spec_l3Gcd.e k))]
noncomputable def spec_PlaneOk.bd : Code := match Tryz.f79.body with | some c => c | none => .skip
noncomputable def spec_PlaneOk.g (k : Nat) : List (Nat × LE) := []
theorem spec_PlaneOk.link (k : Nat) (a0 : S4) : evFun (mkCx Tryz.prog (spec_PlaneOk.c k) (spec_PlaneOk.g k) : Cx Bool) Tryz.f79 ((spec_PlaneOk.e k).args.enc (a0, ())) (spec_PlaneOk.e k).ret.dec = spec_PlaneOk.f k a0 := by kernel_rfl
theorem spec_PlaneOk.ok1 (k : Nat) (hC : AllFun Tryz.prog (spec_PlaneOk.c k)) : Fun Tryz.prog 79 (spec_PlaneOk.e k).G := fun_ok mixed (body := spec_PlaneOk.bd) Tryz.func79 (by kernel_rfl) (by kernel_rfl) (by kernel_rfl) hC (loops_all 0 (by kernel_rfl) fun i hi => absurd hi (Nat.not_lt_zero i)) (spec_PlaneOk.e k) (fun a => Nat.le_of_ble_eq_true (by kernel_rfl)) fun a b h => (spec_PlaneOk.link k a.1).trans h
theorem spec_PlaneOk.ok (k : Nat) : Fun Tryz.prog 79 (spec_PlaneOk.e k).G := spec_PlaneOk.ok1 k ⟨spec_l3In.ok k, spec_l3Gcd.ok k, trivial⟩

noncomputable def spec_l6Right.H2 : Hd := ⟨[], [0, 3], [], [], []⟩
@[reducible] def spec_l6Right.A2 : Type := (((List S4) × Int × Unit) × (Unit))
noncomputable def spec_l6Right.Z2 : SC spec_l6Right.A2 := sC spec_l6Right.H2 (eCons 0 (tP (aSl .s4)) (eCons 3 (tP (aI .i64)) eNil)) bNil
@[reducible] def spec_l6Right.B2 : Type := ((Bool × Unit) × (Unit)) ⊕ (((List S4) × Unit) × (Unit))
noncomputable def spec_l6Right.X2 : XC spec_l6Right.B2 := xOr (xRet (sC ⟨[], [2], [], [], []⟩ (eCons 2 (tP aB) eNil) bNil)) (xExit 0 (sC ⟨[], [0], [], [], []⟩ (eCons 0 (tP (aSl .s4)) eNil) bNil))
noncomputable def spec_l6Right.s2 (k : Nat)  (J : (List S4) → Int → Option spec_l6Right.B2) (x0 : List S4) (x3 : Int) : Option spec_l6Right.B2 :=
  if (decide (x3 < (x0.length : Int))) = true then (if 0 ≤ x3 then (if x3 < (x0.length : Int) then ((spec_PlaneOk.f k  (rd x0 x3)).bind fun t1 => if (!t1) = true then (some (.inl ((false, ()), (())))) else (J x0 (W (x3 + 1)))) else none) else none) else (some (.inr ((x0, ()), (()))))
noncomputable def spec_l6Right.l2 (k : Nat)  : Nat → (List S4) → Int → Option spec_l6Right.B2
  | 0, _, _ => none
  | n + 1, x0, x3 => spec_l6Right.s2 k (spec_l6Right.l2 k n) x0 x3
noncomputable def spec_l6Right.f (k : Nat) (a0 : List S4) : Option Bool :=
  (spec_l6Right.l2 k k a0 0).bind fun | .inl r2 => (some r2.1.1) | .inr x3 => (some (decide ((x3.1.1.length : Int) ≤ 24)))
noncomputable def spec_l6Right.e (k : Nat) : FE := { α := (List S4) × Unit, β := Bool, args := (lCons (aSl .s4) lNil), ret := (rOne aB), f := fun p => spec_l6Right.f k p.1 }
noncomputable def spec_l6Right.c (k : Nat) : List (Nat × CE) := [(79, .fn (spec_PlaneOk.e k))]
noncomputable def spec_l6Right.bd : Code := match Tryz.f43.body with | some c => c | none => .skip
noncomputable def spec_l6Right.e2 (k : Nat) : LE := { H := spec_l6Right.H2, α := spec_l6Right.A2, β := spec_l6Right.B2, st := spec_l6Right.Z2, xt := spec_l6Right.X2, f := fun p => spec_l6Right.l2 k k p.1.1 p.1.2.1 }
noncomputable def spec_l6Right.g (k : Nat) : List (Nat × LE) := [(2, spec_l6Right.e2 k)]
theorem spec_l6Right.t2 (k : Nat) (I : S2 → Option spec_l6Right.B2) (x0 : List S4) (x3 : Int) : stepOf (mkCx Tryz.prog (spec_l6Right.c k) (spec_l6Right.g k) : Cx spec_l6Right.B2) (loopAt spec_l6Right.bd 0) spec_l6Right.H2 spec_l6Right.X2.dec I (spec_l6Right.Z2.enc ((x0, x3, ()), (()))) = spec_l6Right.s2 k (fun x0 x3 => I (spec_l6Right.Z2.enc ((x0, x3, ()), (())))) x0 x3 := by kernel_rfl
theorem spec_l6Right.i2 (k : Nat) : ∀ (n : Nat) (x0 : List S4) (x3 : Int), iter (evCode (mkCx Tryz.prog (spec_l6Right.c k) (spec_l6Right.g k) : Cx spec_l6Right.B2) (loopAt spec_l6Right.bd 0)) spec_l6Right.H2 spec_l6Right.X2.dec n (spec_l6Right.Z2.enc ((x0, x3, ()), (()))) = spec_l6Right.l2 k n x0 x3
  | 0, _, _ => rfl
  | n + 1, x0, x3 => ((iter_step _ _ _ _ n _).trans (spec_l6Right.t2 k _ x0 x3)).trans (congrArg (fun J => spec_l6Right.s2 k J x0 x3) (funext fun x0 => funext fun x3 => spec_l6Right.i2 k n x0 x3))
theorem spec_l6Right.to2 (k : Nat) (hC : AllFun Tryz.prog (spec_l6Right.c k)) : LoopTo Tryz.prog 19 (spec_l6Right.e2 k) (loopAt spec_l6Right.bd 0) := loop_to mixed hC (by kernel_rfl) (loops_all 0 (by kernel_rfl) fun i hi => absurd hi (Nat.not_lt_zero i)) fun a b h => ⟨k, (spec_l6Right.i2 k k a.1.1 a.1.2.1).trans h⟩
theorem spec_l6Right.link (k : Nat) (a0 : List S4) : evFun (mkCx Tryz.prog (spec_l6Right.c k) (spec_l6Right.g k) : Cx Bool) Tryz.f43 ((spec_l6Right.e k).args.enc (a0, ())) (spec_l6Right.e k).ret.dec = spec_l6Right.f k a0 := by kernel_rfl
theorem spec_l6Right.ok1 (k : Nat) (hC : AllFun Tryz.prog (spec_l6Right.c k)) : Fun Tryz.prog 43 (spec_l6Right.e k).G := fun_ok mixed (body := spec_l6Right.bd) Tryz.func43 (by kernel_rfl) (by kernel_rfl) (by kernel_rfl) hC (loops_all 1 (by kernel_rfl) fun i hi => by obtain rfl : i = 0 := Nat.lt_one_iff.1 hi; exact ⟨spec_l6Right.e2 k, by kernel_rfl, spec_l6Right.to2 k hC⟩) (spec_l6Right.e k) (fun a => Nat.le_of_ble_eq_true (by kernel_rfl)) fun a b h => (spec_l6Right.link k a.1).trans h
theorem spec_l6Right.ok (k : Nat) : Fun Tryz.prog 43 (spec_l6Right.e k).G := spec_l6Right.ok1 k ⟨spec_PlaneOk.ok k, trivial⟩

noncomputable def spec_l6Open.H2 : Hd := ⟨[], [0, 3], [], [], []⟩
@[reducible] def spec_l6Open.A2 : Type := (((List S4) × Int × Unit) × (Unit))
noncomputable def spec_l6Open.Z2 : SC spec_l6Open.A2 := sC spec_l6Open.H2 (eCons 0 (tP (aSl .s4)) (eCons 3 (tP (aI .i64)) eNil)) bNil
@[reducible] def spec_l6Open.B2 : Type := ((Bool × Unit) × (Unit)) ⊕ ((Unit) × (Unit))
noncomputable def spec_l6Open.X2 : XC spec_l6Open.B2 := xOr (xRet (sC ⟨[], [2], [], [], []⟩ (eCons 2 (tP aB) eNil) bNil)) (xExit 0 (sC ⟨[], [], [], [], []⟩ eNil bNil))
noncomputable def spec_l6Open.s2 (k : Nat)  (J : (List S4) → Int → Option spec_l6Open.B2) (x0 : List S4) (x3 : Int) : Option spec_l6Open.B2 :=
  if (decide (x3 < (x0.length : Int))) = true then (if 0 ≤ x3 then (if x3 ≤ (x0.length : Int) then (if 0 ≤ x3 then (if x3 < (x0.length : Int) then ((spec_l6With.f k  (x0.take x3.toNat) (rd x0 x3)).bind fun t1 => if t1 = true then (some (.inl ((false, ()), (())))) else (J x0 (W (x3 + 1)))) else none) else none) else none) else none) else (some (.inr ((()), (()))))
noncomputable def spec_l6Open.l2 (k : Nat)  : Nat → (List S4) → Int → Option spec_l6Open.B2
  | 0, _, _ => none
  | n + 1, x0, x3 => spec_l6Open.s2 k (spec_l6Open.l2 k n) x0 x3
noncomputable def spec_l6Open.f (k : Nat) (a0 : List S4) : Option Bool :=
  (spec_l6Open.l2 k k a0 1).bind fun | .inl r2 => (some r2.1.1) | .inr x3 => (some true)
noncomputable def spec_l6Open.e (k : Nat) : FE := { α := (List S4) × Unit, β := Bool, args := (lCons (aSl .s4) lNil), ret := (rOne aB), f := fun p => spec_l6Open.f k p.1 }
noncomputable def spec_l6Open.c (k : Nat) : List (Nat × CE) := [(37, .fn (spec_l6With.e k))]
noncomputable def spec_l6Open.bd : Code := match Tryz.f44.body with | some c => c | none => .skip
noncomputable def spec_l6Open.e2 (k : Nat) : LE := { H := spec_l6Open.H2, α := spec_l6Open.A2, β := spec_l6Open.B2, st := spec_l6Open.Z2, xt := spec_l6Open.X2, f := fun p => spec_l6Open.l2 k k p.1.1 p.1.2.1 }
noncomputable def spec_l6Open.g (k : Nat) : List (Nat × LE) := [(2, spec_l6Open.e2 k)]
theorem spec_l6Open.t2 (k : Nat) (I : S2 → Option spec_l6Open.B2) (x0 : List S4) (x3 : Int) : stepOf (mkCx Tryz.prog (spec_l6Open.c k) (spec_l6Open.g k) : Cx spec_l6Open.B2) (loopAt spec_l6Open.bd 0) spec_l6Open.H2 spec_l6Open.X2.dec I (spec_l6Open.Z2.enc ((x0, x3, ()), (()))) = spec_l6Open.s2 k (fun x0 x3 => I (spec_l6Open.Z2.enc ((x0, x3, ()), (())))) x0 x3 := by kernel_rfl
theorem spec_l6Open.i2 (k : Nat) : ∀ (n : Nat) (x0 : List S4) (x3 : Int), iter (evCode (mkCx Tryz.prog (spec_l6Open.c k) (spec_l6Open.g k) : Cx spec_l6Open.B2) (loopAt spec_l6Open.bd 0)) spec_l6Open.H2 spec_l6Open.X2.dec n (spec_l6Open.Z2.enc ((x0, x3, ()), (()))) = spec_l6Open.l2 k n x0 x3
  | 0, _, _ => rfl
  | n + 1, x0, x3 => ((iter_step _ _ _ _ n _).trans (spec_l6Open.t2 k _ x0 x3)).trans (congrArg (fun J => spec_l6Open.s2 k J x0 x3) (funext fun x0 => funext fun x3 => spec_l6Open.i2 k n x0 x3))
theorem spec_l6Open.to2 (k : Nat) (hC : AllFun Tryz.prog (spec_l6Open.c k)) : LoopTo Tryz.prog 18 (spec_l6Open.e2 k) (loopAt spec_l6Open.bd 0) := loop_to mixed hC (by kernel_rfl) (loops_all 0 (by kernel_rfl) fun i hi => absurd hi (Nat.not_lt_zero i)) fun a b h => ⟨k, (spec_l6Open.i2 k k a.1.1 a.1.2.1).trans h⟩
theorem spec_l6Open.link (k : Nat) (a0 : List S4) : evFun (mkCx Tryz.prog (spec_l6Open.c k) (spec_l6Open.g k) : Cx Bool) Tryz.f44 ((spec_l6Open.e k).args.enc (a0, ())) (spec_l6Open.e k).ret.dec = spec_l6Open.f k a0 := by kernel_rfl
theorem spec_l6Open.ok1 (k : Nat) (hC : AllFun Tryz.prog (spec_l6Open.c k)) : Fun Tryz.prog 44 (spec_l6Open.e k).G := fun_ok mixed (body := spec_l6Open.bd) Tryz.func44 (by kernel_rfl) (by kernel_rfl) (by kernel_rfl) hC (loops_all 1 (by kernel_rfl) fun i hi => by obtain rfl : i = 0 := Nat.lt_one_iff.1 hi; exact ⟨spec_l6Open.e2 k, by kernel_rfl, spec_l6Open.to2 k hC⟩) (spec_l6Open.e k) (fun a => Nat.le_of_ble_eq_true (by kernel_rfl)) fun a b h => (spec_l6Open.link k a.1).trans h
theorem spec_l6Open.ok (k : Nat) : Fun Tryz.prog 44 (spec_l6Open.e k).G := spec_l6Open.ok1 k ⟨spec_l6With.ok k, trivial⟩

noncomputable def spec_Open.f (k : Nat) (a0 : List S4) : Option Bool :=
  (spec_l6Right.f k  a0).bind fun t1 => if t1 = true then ((spec_l6Open.f k  a0).bind fun t2 => some t2) else (some false)
noncomputable def spec_Open.e (k : Nat) : FE := { α := (List S4) × Unit, β := Bool, args := (lCons (aSl .s4) lNil), ret := (rOne aB), f := fun p => spec_Open.f k p.1 }
noncomputable def spec_Open.c (k : Nat) : List (Nat × CE) := [(43, .fn (spec_l6Right.e k)), (44, .fn (spec_l6Open.e k))]
noncomputable def spec_Open.bd : Code := match Tryz.f20.body with | some c => c | none => .skip
noncomputable def spec_Open.g (k : Nat) : List (Nat × LE) := []
theorem spec_Open.link (k : Nat) (a0 : List S4) : evFun (mkCx Tryz.prog (spec_Open.c k) (spec_Open.g k) : Cx Bool) Tryz.f20 ((spec_Open.e k).args.enc (a0, ())) (spec_Open.e k).ret.dec = spec_Open.f k a0 := by kernel_rfl
theorem spec_Open.ok1 (k : Nat) (hC : AllFun Tryz.prog (spec_Open.c k)) : Fun Tryz.prog 20 (spec_Open.e k).G := fun_ok mixed (body := spec_Open.bd) Tryz.func20 (by kernel_rfl) (by kernel_rfl) (by kernel_rfl) hC (loops_all 0 (by kernel_rfl) fun i hi => absurd hi (Nat.not_lt_zero i)) (spec_Open.e k) (fun a => Nat.le_of_ble_eq_true (by kernel_rfl)) fun a b h => (spec_Open.link k a.1).trans h
theorem spec_Open.ok (k : Nat) : Fun Tryz.prog 20 (spec_Open.e k).G := spec_Open.ok1 k ⟨spec_l6Right.ok k, spec_l6Open.ok k, trivial⟩

noncomputable def spec_l3Flip.f (k : Nat) (a0 : S4) : Option S4 :=
  some (⟨(W (0 - a0.a)), (W (0 - a0.b)), (W (0 - a0.c)), (W (0 - a0.d))⟩ : S4)
noncomputable def spec_l3Flip.e (k : Nat) : FE := { α := S4 × Unit, β := S4, args := (lCons aS4 lNil), ret := (rOne aS4), f := fun p => spec_l3Flip.f k p.1 }
noncomputable def spec_l3Flip.c (k : Nat) : List (Nat × CE) := []
noncomputable def spec_l3Flip.bd : Code := match Tryz.f45.body with | some c => c | none => .skip
noncomputable def spec_l3Flip.g (k : Nat) : List (Nat × LE) := []
theorem spec_l3Flip.link (k : Nat) (a0 : S4) : evFun (mkCx Tryz.prog (spec_l3Flip.c k) (spec_l3Flip.g k) : Cx S4) Tryz.f45 ((spec_l3Flip.e k).args.enc (a0, ())) (spec_l3Flip.e k).ret.dec = spec_l3Flip.f k a0 := by kernel_rfl
theorem spec_l3Flip.ok1 (k : Nat) (hC : AllFun Tryz.prog (spec_l3Flip.c k)) : Fun Tryz.prog 45 (spec_l3Flip.e k).G := fun_ok mixed (body := spec_l3Flip.bd) Tryz.func45 (by kernel_rfl) (by kernel_rfl) (by kernel_rfl) hC (loops_all 0 (by kernel_rfl) fun i hi => absurd hi (Nat.not_lt_zero i)) (spec_l3Flip.e k) (fun a => Nat.le_of_ble_eq_true (by kernel_rfl)) fun a b h => (spec_l3Flip.link k a.1).trans h
theorem spec_l3Flip.ok (k : Nat) : Fun Tryz.prog 45 (spec_l3Flip.e k).G := spec_l3Flip.ok1 k trivial

noncomputable def spec_l7Needed.H8 : Hd := ⟨[], [0, 3, 4, 5, 6, 7], [], [], []⟩
@[reducible] def spec_l7Needed.A8 : Type := (((List S4) × Unit × Int × Unit × Bool × Int × Unit) × ((List Int) × (List S4) × Unit))
noncomputable def spec_l7Needed.Z8 : SC spec_l7Needed.A8 := sC spec_l7Needed.H8 (eCons 0 (tP (aSl .s4)) (eCons 3 (tOsl 1000003) (eCons 4 (tP (aI .i64)) (eCons 5 (tOsl 1000005) (eCons 6 (tP aB) (eCons 7 (tP (aI .i64)) eNil)))))) (bCons 1000003 (xRow 3 (.i .i64)) (bCons 1000005 (xRow 29 .s4) bNil))
@[reducible] def spec_l7Needed.B8 : Type := (((List S4) × Unit × Int × Unit × Bool × Unit) × ((List Int) × (List S4) × Unit))
noncomputable def spec_l7Needed.X8 : XC spec_l7Needed.B8 := xExit 2 (sC ⟨[], [0, 3, 4, 5, 6], [], [], []⟩ (eCons 0 (tP (aSl .s4)) (eCons 3 (tOsl 1000003) (eCons 4 (tP (aI .i64)) (eCons 5 (tOsl 1000005) (eCons 6 (tP aB) eNil))))) (bCons 1000003 (xRow 3 (.i .i64)) (bCons 1000005 (xRow 29 .s4) bNil)))
noncomputable def spec_l7Needed.s8 (k : Nat)  (J : (List S4) → Int → Bool → Int → (List Int) → (List S4) → Option spec_l7Needed.B8) (x0 : List S4) (x4 : Int) (x6 : Bool) (x7 : Int) (b1000003 : List Int) (b1000005 : List S4) : Option spec_l7Needed.B8 :=
  if (decide (x7 < (x0.length : Int))) = true then (if (x7 == x4) = true then (if x6 = true then (J x0 x4 (decide (x7 ≥ x4)) (W (x7 + 1)) b1000003 b1000005) else (J x0 x4 false (W (x7 + 1)) b1000003 b1000005)) else (if 0 ≤ x7 then (if x7 < (x0.length : Int) then (if 0 ≤ x4 then (if x4 < (x0.length : Int) then (if (((rd x0 x7).a == (rd x0 x4).a) && (((rd x0 x7).b == (rd x0 x4).b) && (((rd x0 x7).c == (rd x0 x4).c) && ((rd x0 x7).d == (rd x0 x4).d)))) = true then (if x6 = true then (J x0 x4 (decide (x7 ≥ x4)) (W (x7 + 1)) b1000003 b1000005) else (J x0 x4 false (W (x7 + 1)) b1000003 b1000005)) else (if 0 ≤ x7 then (if x7 < (x0.length : Int) then (if lt47 (b1000005.length + ([(rd x0 x7)] : List S4).length) = true then (J x0 x4 x6 (W (x7 + 1)) b1000003 (b1000005 ++ ([(rd x0 x7)] : List S4))) else none) else none) else none)) else none) else none) else none) else none)) else (some ((x0, (), x4, (), x6, ()), (b1000003, b1000005, ())))
noncomputable def spec_l7Needed.l8 (k : Nat)  : Nat → (List S4) → Int → Bool → Int → (List Int) → (List S4) → Option spec_l7Needed.B8
  | 0, _, _, _, _, _, _ => none
  | n + 1, x0, x4, x6, x7, b1000003, b1000005 => spec_l7Needed.s8 k (spec_l7Needed.l8 k n) x0 x4 x6 x7 b1000003 b1000005
noncomputable def spec_l7Needed.H3 : Hd := ⟨[], [0, 3, 4], [], [], []⟩
@[reducible] def spec_l7Needed.A3 : Type := (((List S4) × Unit × Int × Unit) × ((List Int) × Unit))
noncomputable def spec_l7Needed.Z3 : SC spec_l7Needed.A3 := sC spec_l7Needed.H3 (eCons 0 (tP (aSl .s4)) (eCons 3 (tOsl 1000003) (eCons 4 (tP (aI .i64)) eNil))) (bCons 1000003 (xRow 3 (.i .i64)) bNil)
@[reducible] def spec_l7Needed.B3 : Type := ((Unit × Unit) × ((List Int) × Unit))
noncomputable def spec_l7Needed.X3 : XC spec_l7Needed.B3 := xExit 0 (sC ⟨[], [3], [], [], []⟩ (eCons 3 (tOsl 1000003) eNil) (bCons 1000003 (xRow 3 (.i .i64)) bNil))
noncomputable def spec_l7Needed.s3 (k : Nat)  (J : (List S4) → Int → (List Int) → Option spec_l7Needed.B3) (x0 : List S4) (x4 : Int) (b1000003 : List Int) : Option spec_l7Needed.B3 :=
  if (decide (x4 < (x0.length : Int))) = true then ((spec_l7Needed.l8 k k x0 x4 true 0 b1000003 ([] : List S4)).bind fun x1 => if x1.1.2.2.2.2.1 = true then (if 0 ≤ x1.1.2.2.1 then (if x1.1.2.2.1 < (x1.1.1.length : Int) then ((spec_l3Flip.f k  (rd x1.1.1 x1.1.2.2.1)).bind fun t2 => (spec_l6With.f k  x1.2.2.1 t2).bind fun t3 => if (!t3) = true then (if lt47 (x1.2.1.length + ([x1.1.2.2.1] : List Int).length) = true then (J x1.1.1 (W (x1.1.2.2.1 + 1)) (x1.2.1 ++ ([x1.1.2.2.1] : List Int))) else none) else (J x1.1.1 (W (x1.1.2.2.1 + 1)) x1.2.1)) else none) else none) else (J x1.1.1 (W (x1.1.2.2.1 + 1)) x1.2.1)) else (some (((), ()), (b1000003, ())))
noncomputable def spec_l7Needed.l3 (k : Nat)  : Nat → (List S4) → Int → (List Int) → Option spec_l7Needed.B3
  | 0, _, _, _ => none
  | n + 1, x0, x4, b1000003 => spec_l7Needed.s3 k (spec_l7Needed.l3 k n) x0 x4 b1000003
noncomputable def spec_l7Needed.f (k : Nat) (a0 : List S4) : Option (List Int) :=
  (spec_l7Needed.l3 k k a0 0 ([] : List Int)).bind fun x4 => some x4.2.1
noncomputable def spec_l7Needed.e (k : Nat) : FE := { α := (List S4) × Unit, β := List Int, args := (lCons (aSl .s4) lNil), ret := (rOwn 3 (.i .i64)), f := fun p => spec_l7Needed.f k p.1 }
noncomputable def spec_l7Needed.c (k : Nat) : List (Nat × CE) := [(45, .fn (spec_l3Flip.e k)), (37, .fn (spec_l6With.e k))]
noncomputable def spec_l7Needed.bd : Code := match Tryz.f21.body with | some c => c | none => .skip
noncomputable def spec_l7Needed.e8 (k : Nat) : LE := { H := spec_l7Needed.H8, α := spec_l7Needed.A8, β := spec_l7Needed.B8, st := spec_l7Needed.Z8, xt := spec_l7Needed.X8, f := fun p => spec_l7Needed.l8 k k p.1.1 p.1.2.2.1 p.1.2.2.2.2.1 p.1.2.2.2.2.2.1 p.2.1 p.2.2.1 }
noncomputable def spec_l7Needed.e3 (k : Nat) : LE := { H := spec_l7Needed.H3, α := spec_l7Needed.A3, β := spec_l7Needed.B3, st := spec_l7Needed.Z3, xt := spec_l7Needed.X3, f := fun p => spec_l7Needed.l3 k k p.1.1 p.1.2.2.1 p.2.1 }
noncomputable def spec_l7Needed.g (k : Nat) : List (Nat × LE) := [(8, spec_l7Needed.e8 k), (3, spec_l7Needed.e3 k)]
theorem spec_l7Needed.t8 (k : Nat) (I : S2 → Option spec_l7Needed.B8) (x0 : List S4) (x4 : Int) (x6 : Bool) (x7 : Int) (b1000003 : List Int) (b1000005 : List S4) : stepOf (mkCx Tryz.prog (spec_l7Needed.c k) (spec_l7Needed.g k) : Cx spec_l7Needed.B8) (loopAt (loopAt spec_l7Needed.bd 0) 0) spec_l7Needed.H8 spec_l7Needed.X8.dec I (spec_l7Needed.Z8.enc ((x0, (), x4, (), x6, x7, ()), (b1000003, b1000005, ()))) = spec_l7Needed.s8 k (fun x0 x4 x6 x7 b1000003 b1000005 => I (spec_l7Needed.Z8.enc ((x0, (), x4, (), x6, x7, ()), (b1000003, b1000005, ())))) x0 x4 x6 x7 b1000003 b1000005 := by kernel_rfl
theorem spec_l7Needed.i8 (k : Nat) : ∀ (n : Nat) (x0 : List S4) (x4 : Int) (x6 : Bool) (x7 : Int) (b1000003 : List Int) (b1000005 : List S4), iter (evCode (mkCx Tryz.prog (spec_l7Needed.c k) (spec_l7Needed.g k) : Cx spec_l7Needed.B8) (loopAt (loopAt spec_l7Needed.bd 0) 0)) spec_l7Needed.H8 spec_l7Needed.X8.dec n (spec_l7Needed.Z8.enc ((x0, (), x4, (), x6, x7, ()), (b1000003, b1000005, ()))) = spec_l7Needed.l8 k n x0 x4 x6 x7 b1000003 b1000005
  | 0, _, _, _, _, _, _ => rfl
  | n + 1, x0, x4, x6, x7, b1000003, b1000005 => ((iter_step _ _ _ _ n _).trans (spec_l7Needed.t8 k _ x0 x4 x6 x7 b1000003 b1000005)).trans (congrArg (fun J => spec_l7Needed.s8 k J x0 x4 x6 x7 b1000003 b1000005) (funext fun x0 => funext fun x4 => funext fun x6 => funext fun x7 => funext fun b1000003 => funext fun b1000005 => spec_l7Needed.i8 k n x0 x4 x6 x7 b1000003 b1000005))
theorem spec_l7Needed.t3 (k : Nat) (I : S2 → Option spec_l7Needed.B3) (x0 : List S4) (x4 : Int) (b1000003 : List Int) : stepOf (mkCx Tryz.prog (spec_l7Needed.c k) (spec_l7Needed.g k) : Cx spec_l7Needed.B3) (loopAt spec_l7Needed.bd 0) spec_l7Needed.H3 spec_l7Needed.X3.dec I (spec_l7Needed.Z3.enc ((x0, (), x4, ()), (b1000003, ()))) = spec_l7Needed.s3 k (fun x0 x4 b1000003 => I (spec_l7Needed.Z3.enc ((x0, (), x4, ()), (b1000003, ())))) x0 x4 b1000003 := by kernel_rfl
theorem spec_l7Needed.i3 (k : Nat) : ∀ (n : Nat) (x0 : List S4) (x4 : Int) (b1000003 : List Int), iter (evCode (mkCx Tryz.prog (spec_l7Needed.c k) (spec_l7Needed.g k) : Cx spec_l7Needed.B3) (loopAt spec_l7Needed.bd 0)) spec_l7Needed.H3 spec_l7Needed.X3.dec n (spec_l7Needed.Z3.enc ((x0, (), x4, ()), (b1000003, ()))) = spec_l7Needed.l3 k n x0 x4 b1000003
  | 0, _, _, _ => rfl
  | n + 1, x0, x4, b1000003 => ((iter_step _ _ _ _ n _).trans (spec_l7Needed.t3 k _ x0 x4 b1000003)).trans (congrArg (fun J => spec_l7Needed.s3 k J x0 x4 b1000003) (funext fun x0 => funext fun x4 => funext fun b1000003 => spec_l7Needed.i3 k n x0 x4 b1000003))
theorem spec_l7Needed.to8 (k : Nat) (hC : AllFun Tryz.prog (spec_l7Needed.c k)) : LoopTo Tryz.prog 65 (spec_l7Needed.e8 k) (loopAt (loopAt spec_l7Needed.bd 0) 0) := loop_to mixed hC (by kernel_rfl) (loops_all 0 (by kernel_rfl) fun i hi => absurd hi (Nat.not_lt_zero i)) fun a b h => ⟨k, (spec_l7Needed.i8 k k a.1.1 a.1.2.2.1 a.1.2.2.2.2.1 a.1.2.2.2.2.2.1 a.2.1 a.2.2.1).trans h⟩
theorem spec_l7Needed.to3 (k : Nat) (hC : AllFun Tryz.prog (spec_l7Needed.c k)) : LoopTo Tryz.prog 65 (spec_l7Needed.e3 k) (loopAt spec_l7Needed.bd 0) := loop_to mixed hC (by kernel_rfl) (loops_all 1 (by kernel_rfl) fun i hi => by obtain rfl : i = 0 := Nat.lt_one_iff.1 hi; exact ⟨spec_l7Needed.e8 k, by kernel_rfl, spec_l7Needed.to8 k hC⟩) fun a b h => ⟨k, (spec_l7Needed.i3 k k a.1.1 a.1.2.2.1 a.2.1).trans h⟩
theorem spec_l7Needed.link (k : Nat) (a0 : List S4) : evFun (mkCx Tryz.prog (spec_l7Needed.c k) (spec_l7Needed.g k) : Cx (List Int)) Tryz.f21 ((spec_l7Needed.e k).args.enc (a0, ())) (spec_l7Needed.e k).ret.dec = spec_l7Needed.f k a0 := by kernel_rfl
theorem spec_l7Needed.ok1 (k : Nat) (hC : AllFun Tryz.prog (spec_l7Needed.c k)) : Fun Tryz.prog 21 (spec_l7Needed.e k).G := fun_ok mixed (body := spec_l7Needed.bd) Tryz.func21 (by kernel_rfl) (by kernel_rfl) (by kernel_rfl) hC (loops_all 1 (by kernel_rfl) fun i hi => by obtain rfl : i = 0 := Nat.lt_one_iff.1 hi; exact ⟨spec_l7Needed.e3 k, by kernel_rfl, spec_l7Needed.to3 k hC⟩) (spec_l7Needed.e k) (fun a => Nat.le_of_ble_eq_true (by kernel_rfl)) fun a b h => (spec_l7Needed.link k a.1).trans h
theorem spec_l7Needed.ok (k : Nat) : Fun Tryz.prog 21 (spec_l7Needed.e k).G := spec_l7Needed.ok1 k ⟨spec_l3Flip.ok k, spec_l6With.ok k, trivial⟩

noncomputable def spec_Needed.f (k : Nat) (a0 : List S4) : Option (List Int) :=
  (spec_Open.f k  a0).bind fun t1 => if (!t1) = true then (some ([] : List Int)) else ((spec_l7Needed.f k  a0).bind fun t2 => some t2)
noncomputable def spec_Needed.e (k : Nat) : FE := { α := (List S4) × Unit, β := List Int, args := (lCons (aSl .s4) lNil), ret := (rOwn 3 (.i .i64)), f := fun p => spec_Needed.f k p.1 }
noncomputable def spec_Needed.c (k : Nat) : List (Nat × CE) := [(20, .fn (spec_Open.e k)), (21, .fn (spec_l7Needed.e k))]
noncomputable def spec_Needed.bd : Code := match Tryz.f8.body with | some c => c | none => .skip
noncomputable def spec_Needed.g (k : Nat) : List (Nat × LE) := []
theorem spec_Needed.link (k : Nat) (a0 : List S4) : evFun (mkCx Tryz.prog (spec_Needed.c k) (spec_Needed.g k) : Cx (List Int)) Tryz.f8 ((spec_Needed.e k).args.enc (a0, ())) (spec_Needed.e k).ret.dec = spec_Needed.f k a0 := by kernel_rfl
theorem spec_Needed.ok1 (k : Nat) (hC : AllFun Tryz.prog (spec_Needed.c k)) : Fun Tryz.prog 8 (spec_Needed.e k).G := fun_ok mixed (body := spec_Needed.bd) Tryz.func8 (by kernel_rfl) (by kernel_rfl) (by kernel_rfl) hC (loops_all 0 (by kernel_rfl) fun i hi => absurd hi (Nat.not_lt_zero i)) (spec_Needed.e k) (fun a => Nat.le_of_ble_eq_true (by kernel_rfl)) fun a b h => (spec_Needed.link k a.1).trans h
theorem spec_Needed.ok (k : Nat) : Fun Tryz.prog 8 (spec_Needed.e k).G := spec_Needed.ok1 k ⟨spec_Open.ok k, spec_l7Needed.ok k, trivial⟩

noncomputable def spec_SpotOf.H7 : Hd := ⟨[], [3, 8, 10, 11, 12, 13], [8, 11], [], []⟩
@[reducible] def spec_SpotOf.A7 : Type := ((Int × Unit × (List Nm) × Unit × Unit × Int × Unit) × (S4 × Nm × (List Int) × Unit))
noncomputable def spec_SpotOf.Z7 : SC spec_SpotOf.A7 := sC spec_SpotOf.H7 (eCons 3 (tP (aI .i64)) (eCons 8 (tRef 8 0) (eCons 10 (tP (aSl .num)) (eCons 11 (tRef 11 0) (eCons 12 (tOsl 1000012) (eCons 13 (tP (aI .i64)) eNil)))))) (bCons 8 (xVr cS4) (bCons 11 (xVr cNum) (bCons 1000012 (xRow 3 (.i .i64)) bNil)))
@[reducible] def spec_SpotOf.B7 : Type := ((Unit × Bool × Unit) × (S4 × Unit)) ⊕ ((Unit × Unit × Unit) × (S4 × (List Int) × Unit))
noncomputable def spec_SpotOf.X7 : XC spec_SpotOf.B7 := xOr (xRet (sC ⟨[], [8, 9], [8], [], []⟩ (eCons 8 (tRef 8 0) (eCons 9 (tP aB) eNil)) (bCons 8 (xVr cS4) bNil))) (xExit 0 (sC ⟨[], [8, 12], [8], [], []⟩ (eCons 8 (tRef 8 0) (eCons 12 (tOsl 1000012) eNil)) (bCons 8 (xVr cS4) (bCons 1000012 (xRow 3 (.i .i64)) bNil))))
noncomputable def spec_SpotOf.s7 (k : Nat)  (J : Int → (List Nm) → Int → S4 → Nm → (List Int) → Option spec_SpotOf.B7) (x3 : Int) (x10 : List Nm) (x13 : Int) (b8 : S4) (b11 : Nm) (b1000012 : List Int) : Option spec_SpotOf.B7 :=
  if (decide (x13 < 4)) = true then (if 0 ≤ x13 then (if x13 < (x10.length : Int) then ((spec_l1DivMag.f k  ((rd x10 x13).d) b11.d).bind fun t6 => if 0 ≤ x13 then (if x13 < (x10.length : Int) then ((spec_l1Num.f k  (!((rd x10 x13).neg == (decide (x3 < 0)))) t6.1).bind fun t7 => (spec_Small.f k  t7).bind fun t8 => if (!t8.2.1) = true then (some (.inl (((), false, ()), ((⟨0, 0, 0, 0⟩ : S4), ())))) else ((spec_l1In.f k  t8.1 (-1000000000) 1000000000).bind fun t9 => if (!t9) = true then (some (.inl (((), false, ()), ((⟨0, 0, 0, 0⟩ : S4), ())))) else (if lt47 (b1000012.length + ([t8.1] : List Int).length) = true then (J x3 x10 (W (x13 + 1)) b8 b11 (b1000012 ++ ([t8.1] : List Int))) else none))) else none) else none) else none) else none) else (some (.inr (((), (), ()), (b8, b1000012, ()))))
noncomputable def spec_SpotOf.l7 (k : Nat)  : Nat → Int → (List Nm) → Int → S4 → Nm → (List Int) → Option spec_SpotOf.B7
  | 0, _, _, _, _, _, _ => none
  | n + 1, x3, x10, x13, b8, b11, b1000012 => spec_SpotOf.s7 k (spec_SpotOf.l7 k n) x3 x10 x13 b8 b11 b1000012
noncomputable def spec_SpotOf.f (k : Nat) (a0 : Int) (a1 : Int) (a2 : Int) (a3 : Int) : Option (S4 × Bool × Unit) :=
  if (a3 == 0) = true then (some ((⟨0, 0, 0, 0⟩ : S4), false, ())) else ((spec_Of.f k  a0).bind fun t1 => (spec_Of.f k  a1).bind fun t2 => (spec_Of.f k  a2).bind fun t3 => (spec_Of.f k  a3).bind fun t4 => (spec_l3NumGcd.f k  ([t1, t2, t3, t4] : List Nm)).bind fun t5 => (spec_SpotOf.l7 k k a3 ([t1, t2, t3, t4] : List Nm) 0 (⟨0, 0, 0, 0⟩ : S4) t5 ([] : List Int)).bind fun | .inl r10 => (some (r10.2.1, r10.1.2.1, ())) | .inr x11 => (if 0 ≤ 0 then (if 0 < (x11.2.2.1.length : Int) then (if (0 : Int).toNat < x11.2.2.1.length then (if 0 ≤ 1 then (if 1 < (x11.2.2.1.length : Int) then (if (1 : Int).toNat < x11.2.2.1.length then (if 0 ≤ 2 then (if 2 < (x11.2.2.1.length : Int) then (if (2 : Int).toNat < x11.2.2.1.length then (if 0 ≤ 3 then (if 3 < (x11.2.2.1.length : Int) then (if (3 : Int).toNat < x11.2.2.1.length then (some ((⟨(x11.2.2.1.getD ((0 : Int).toNat) default), (x11.2.2.1.getD ((1 : Int).toNat) default), (x11.2.2.1.getD ((2 : Int).toNat) default), (x11.2.2.1.getD ((3 : Int).toNat) default)⟩ : S4), true, ())) else none) else none) else none) else none) else none) else none) else none) else none) else none) else none) else none) else none))
noncomputable def spec_SpotOf.e (k : Nat) : FE := { α := Int × Int × Int × Int × Unit, β := (S4 × Bool × Unit), args := (lCons (aI .i64) (lCons (aI .i64) (lCons (aI .i64) (lCons (aI .i64) lNil)))), ret := (rMany (lCons aS4 (lCons aB lNil))), f := fun p => spec_SpotOf.f k p.1 p.2.1 p.2.2.1 p.2.2.2.1 }
noncomputable def spec_SpotOf.c (k : Nat) : List (Nat × CE) := [(22, .fn (spec_Of.e k)), (23, .fn (spec_l3NumGcd.e k)), (24, .fn (spec_l1DivMag.e k)), (26, .fn (spec_l1Num.e k)), (25, .fn (spec_Small.e k)), (27, .fn (spec_l1In.e k))]
noncomputable def spec_SpotOf.bd : Code := match Tryz.f9.body with | some c => c | none => .skip
noncomputable def spec_SpotOf.e7 (k : Nat) : LE := { H := spec_SpotOf.H7, α := spec_SpotOf.A7, β := spec_SpotOf.B7, st := spec_SpotOf.Z7, xt := spec_SpotOf.X7, f := fun p => spec_SpotOf.l7 k k p.1.1 p.1.2.2.1 p.1.2.2.2.2.2.1 p.2.1 p.2.2.1 p.2.2.2.1 }
noncomputable def spec_SpotOf.g (k : Nat) : List (Nat × LE) := [(7, spec_SpotOf.e7 k)]
theorem spec_SpotOf.t7 (k : Nat) (I : S2 → Option spec_SpotOf.B7) (x3 : Int) (x10 : List Nm) (x13 : Int) (b8 : S4) (b11 : Nm) (b1000012 : List Int) : stepOf (mkCx Tryz.prog (spec_SpotOf.c k) (spec_SpotOf.g k) : Cx spec_SpotOf.B7) (loopAt spec_SpotOf.bd 0) spec_SpotOf.H7 spec_SpotOf.X7.dec I (spec_SpotOf.Z7.enc ((x3, (), x10, (), (), x13, ()), (b8, b11, b1000012, ()))) = spec_SpotOf.s7 k (fun x3 x10 x13 b8 b11 b1000012 => I (spec_SpotOf.Z7.enc ((x3, (), x10, (), (), x13, ()), (b8, b11, b1000012, ())))) x3 x10 x13 b8 b11 b1000012 := by kernel_rfl
theorem spec_SpotOf.i7 (k : Nat) : ∀ (n : Nat) (x3 : Int) (x10 : List Nm) (x13 : Int) (b8 : S4) (b11 : Nm) (b1000012 : List Int), iter (evCode (mkCx Tryz.prog (spec_SpotOf.c k) (spec_SpotOf.g k) : Cx spec_SpotOf.B7) (loopAt spec_SpotOf.bd 0)) spec_SpotOf.H7 spec_SpotOf.X7.dec n (spec_SpotOf.Z7.enc ((x3, (), x10, (), (), x13, ()), (b8, b11, b1000012, ()))) = spec_SpotOf.l7 k n x3 x10 x13 b8 b11 b1000012
  | 0, _, _, _, _, _, _ => rfl
  | n + 1, x3, x10, x13, b8, b11, b1000012 => ((iter_step _ _ _ _ n _).trans (spec_SpotOf.t7 k _ x3 x10 x13 b8 b11 b1000012)).trans (congrArg (fun J => spec_SpotOf.s7 k J x3 x10 x13 b8 b11 b1000012) (funext fun x3 => funext fun x10 => funext fun x13 => funext fun b8 => funext fun b11 => funext fun b1000012 => spec_SpotOf.i7 k n x3 x10 x13 b8 b11 b1000012))
theorem spec_SpotOf.to7 (k : Nat) (hC : AllFun Tryz.prog (spec_SpotOf.c k)) : LoopTo Tryz.prog 87 (spec_SpotOf.e7 k) (loopAt spec_SpotOf.bd 0) := loop_to mixed hC (by kernel_rfl) (loops_all 0 (by kernel_rfl) fun i hi => absurd hi (Nat.not_lt_zero i)) fun a b h => ⟨k, (spec_SpotOf.i7 k k a.1.1 a.1.2.2.1 a.1.2.2.2.2.2.1 a.2.1 a.2.2.1 a.2.2.2.1).trans h⟩
theorem spec_SpotOf.link (k : Nat) (a0 : Int) (a1 : Int) (a2 : Int) (a3 : Int) : evFun (mkCx Tryz.prog (spec_SpotOf.c k) (spec_SpotOf.g k) : Cx (S4 × Bool × Unit)) Tryz.f9 ((spec_SpotOf.e k).args.enc (a0, a1, a2, a3, ())) (spec_SpotOf.e k).ret.dec = spec_SpotOf.f k a0 a1 a2 a3 := by kernel_rfl
theorem spec_SpotOf.ok1 (k : Nat) (hC : AllFun Tryz.prog (spec_SpotOf.c k)) : Fun Tryz.prog 9 (spec_SpotOf.e k).G := fun_ok mixed (body := spec_SpotOf.bd) Tryz.func9 (by kernel_rfl) (by kernel_rfl) (by kernel_rfl) hC (loops_all 1 (by kernel_rfl) fun i hi => by obtain rfl : i = 0 := Nat.lt_one_iff.1 hi; exact ⟨spec_SpotOf.e7 k, by kernel_rfl, spec_SpotOf.to7 k hC⟩) (spec_SpotOf.e k) (fun a => Nat.le_of_ble_eq_true (by kernel_rfl)) fun a b h => (spec_SpotOf.link k a.1 a.2.1 a.2.2.1 a.2.2.2.1).trans h
theorem spec_SpotOf.ok (k : Nat) : Fun Tryz.prog 9 (spec_SpotOf.e k).G := spec_SpotOf.ok1 k ⟨spec_Of.ok k, spec_l3NumGcd.ok k, spec_l1DivMag.ok k, spec_l1Num.ok k, spec_Small.ok k, spec_l1In.ok k, trivial⟩

noncomputable def laws_at.f (k : Nat) (a0 : List Int) (a1 : Int) : Option Int :=
  if (decide (a1 < (a0.length : Int))) = true then (if 0 ≤ a1 then (if a1 < (a0.length : Int) then (some (W (rd a0 a1))) else none) else none) else (if 256 = 0 then none else (some ((W ((W (a1 * 31)) + (W ((a0.length : Int) * 7)))).tmod 256)))
noncomputable def laws_at.e (k : Nat) : FE := { α := (List Int) × Int × Unit, β := Int, args := (lCons (aSl (.i .u8)) (lCons (aI .i64) lNil)), ret := (rOne (aI .i64)), f := fun p => laws_at.f k p.1 p.2.1 }
noncomputable def laws_at.c (k : Nat) : List (Nat × CE) := []
noncomputable def laws_at.bd : Code := match Tryz.f10.body with | some c => c | none => .skip
noncomputable def laws_at.g (k : Nat) : List (Nat × LE) := []
theorem laws_at.link (k : Nat) (a0 : List Int) (a1 : Int) : evFun (mkCx Tryz.prog (laws_at.c k) (laws_at.g k) : Cx Int) Tryz.f10 ((laws_at.e k).args.enc (a0, a1, ())) (laws_at.e k).ret.dec = laws_at.f k a0 a1 := by kernel_rfl
theorem laws_at.ok1 (k : Nat) (hC : AllFun Tryz.prog (laws_at.c k)) : Fun Tryz.prog 10 (laws_at.e k).G := fun_ok mixed (body := laws_at.bd) Tryz.func10 (by kernel_rfl) (by kernel_rfl) (by kernel_rfl) hC (loops_all 0 (by kernel_rfl) fun i hi => absurd hi (Nat.not_lt_zero i)) (laws_at.e k) (fun a => Nat.le_of_ble_eq_true (by kernel_rfl)) fun a b h => (laws_at.link k a.1 a.2.1).trans h
theorem laws_at.ok (k : Nat) : Fun Tryz.prog 10 (laws_at.e k).G := laws_at.ok1 k trivial

noncomputable def impl_SpotOk.H4 : Hd := ⟨[], [1, 15, 16], [1], [], []⟩
@[reducible] def impl_SpotOk.A4 : Type := ((Unit × S3 × Int × Unit) × (S4 × Unit))
noncomputable def impl_SpotOk.Z4 : SC impl_SpotOk.A4 := sC impl_SpotOk.H4 (eCons 1 (tRef 1 0) (eCons 15 (tP aS3) (eCons 16 (tP (aI .i64)) eNil))) (bCons 1 (xVr cS4) bNil)
@[reducible] def impl_SpotOk.B4 : Type := ((Bool × Unit) × (Unit)) ⊕ ((Unit × Unit) × (S4 × Unit))
noncomputable def impl_SpotOk.X4 : XC impl_SpotOk.B4 := xOr (xRet (sC ⟨[], [2], [], [], []⟩ (eCons 2 (tP aB) eNil) bNil)) (xExit 0 (sC ⟨[], [1], [1], [], []⟩ (eCons 1 (tRef 1 0) eNil) (bCons 1 (xVr cS4) bNil)))
noncomputable def impl_SpotOk.s4 (k : Nat)  (J : S3 → Int → S4 → Option impl_SpotOk.B4) (x15 : S3) (x16 : Int) (b1 : S4) : Option impl_SpotOk.B4 :=
  if (decide (x16 < 3)) = true then (if 0 ≤ x16 then (if x16 < 3 then ((impl_inRange.f k  (sel [x15.x, x15.y, x15.z] x16) (-1000000000) 1000000000).bind fun t2 => if (!t2) = true then (some (.inl ((false, ()), (())))) else (J x15 (W (x16 + 1)) b1)) else none) else none) else (some (.inr (((), ()), (b1, ()))))
noncomputable def impl_SpotOk.l4 (k : Nat)  : Nat → S3 → Int → S4 → Option impl_SpotOk.B4
  | 0, _, _, _ => none
  | n + 1, x15, x16, b1 => impl_SpotOk.s4 k (impl_SpotOk.l4 k n) x15 x16 b1
noncomputable def impl_SpotOk.f (k : Nat) (a0 : S4) : Option Bool :=
  (impl_inRange.f k  a0.d 1 1000000000).bind fun t1 => if (!t1) = true then (some false) else ((impl_SpotOk.l4 k k (⟨a0.a, a0.b, a0.c⟩ : S3) 0 a0).bind fun | .inl r3 => (some r3.1.1) | .inr x4 => ((impl_divisor.f k  ([x4.2.1.a, x4.2.1.b, x4.2.1.c, x4.2.1.d] : List Int)).bind fun t5 => some (t5 == 1)))
noncomputable def impl_SpotOk.e (k : Nat) : FE := { α := S4 × Unit, β := Bool, args := (lCons aS4 lNil), ret := (rOne aB), f := fun p => impl_SpotOk.f k p.1 }
noncomputable def impl_SpotOk.c (k : Nat) : List (Nat × CE) := [(53, .fn (impl_inRange.e k)), (54, .fn (impl_divisor.e k))]
noncomputable def impl_SpotOk.bd : Code := match Tryz.f28.body with | some c => c | none => .skip
noncomputable def impl_SpotOk.e4 (k : Nat) : LE := { H := impl_SpotOk.H4, α := impl_SpotOk.A4, β := impl_SpotOk.B4, st := impl_SpotOk.Z4, xt := impl_SpotOk.X4, f := fun p => impl_SpotOk.l4 k k p.1.2.1 p.1.2.2.1 p.2.1 }
noncomputable def impl_SpotOk.g (k : Nat) : List (Nat × LE) := [(4, impl_SpotOk.e4 k)]
theorem impl_SpotOk.t4 (k : Nat) (I : S2 → Option impl_SpotOk.B4) (x15 : S3) (x16 : Int) (b1 : S4) : stepOf (mkCx Tryz.prog (impl_SpotOk.c k) (impl_SpotOk.g k) : Cx impl_SpotOk.B4) (loopAt impl_SpotOk.bd 0) impl_SpotOk.H4 impl_SpotOk.X4.dec I (impl_SpotOk.Z4.enc (((), x15, x16, ()), (b1, ()))) = impl_SpotOk.s4 k (fun x15 x16 b1 => I (impl_SpotOk.Z4.enc (((), x15, x16, ()), (b1, ())))) x15 x16 b1 := by kernel_rfl
theorem impl_SpotOk.i4 (k : Nat) : ∀ (n : Nat) (x15 : S3) (x16 : Int) (b1 : S4), iter (evCode (mkCx Tryz.prog (impl_SpotOk.c k) (impl_SpotOk.g k) : Cx impl_SpotOk.B4) (loopAt impl_SpotOk.bd 0)) impl_SpotOk.H4 impl_SpotOk.X4.dec n (impl_SpotOk.Z4.enc (((), x15, x16, ()), (b1, ()))) = impl_SpotOk.l4 k n x15 x16 b1
  | 0, _, _, _ => rfl
  | n + 1, x15, x16, b1 => ((iter_step _ _ _ _ n _).trans (impl_SpotOk.t4 k _ x15 x16 b1)).trans (congrArg (fun J => impl_SpotOk.s4 k J x15 x16 b1) (funext fun x15 => funext fun x16 => funext fun b1 => impl_SpotOk.i4 k n x15 x16 b1))
theorem impl_SpotOk.to4 (k : Nat) (hC : AllFun Tryz.prog (impl_SpotOk.c k)) : LoopTo Tryz.prog 34 (impl_SpotOk.e4 k) (loopAt impl_SpotOk.bd 0) := loop_to mixed hC (by kernel_rfl) (loops_all 0 (by kernel_rfl) fun i hi => absurd hi (Nat.not_lt_zero i)) fun a b h => ⟨k, (impl_SpotOk.i4 k k a.1.2.1 a.1.2.2.1 a.2.1).trans h⟩
theorem impl_SpotOk.link (k : Nat) (a0 : S4) : evFun (mkCx Tryz.prog (impl_SpotOk.c k) (impl_SpotOk.g k) : Cx Bool) Tryz.f28 ((impl_SpotOk.e k).args.enc (a0, ())) (impl_SpotOk.e k).ret.dec = impl_SpotOk.f k a0 := by kernel_rfl
theorem impl_SpotOk.ok1 (k : Nat) (hC : AllFun Tryz.prog (impl_SpotOk.c k)) : Fun Tryz.prog 28 (impl_SpotOk.e k).G := fun_ok mixed (body := impl_SpotOk.bd) Tryz.func28 (by kernel_rfl) (by kernel_rfl) (by kernel_rfl) hC (loops_all 1 (by kernel_rfl) fun i hi => by obtain rfl : i = 0 := Nat.lt_one_iff.1 hi; exact ⟨impl_SpotOk.e4 k, by kernel_rfl, impl_SpotOk.to4 k hC⟩) (impl_SpotOk.e k) (fun a => Nat.le_of_ble_eq_true (by kernel_rfl)) fun a b h => (impl_SpotOk.link k a.1).trans h
theorem impl_SpotOk.ok (k : Nat) : Fun Tryz.prog 28 (impl_SpotOk.e k).G := impl_SpotOk.ok1 k ⟨impl_inRange.ok k, impl_divisor.ok k, trivial⟩

noncomputable def impl_sideAt.f (k : Nat) (a0 : S4) (a1 : S4) : Option Int :=
  (impl_sign.f k  (W ((W ((W ((W (a0.a * a1.a)) + (W (a0.b * a1.b)))) + (W (a0.c * a1.c)))) + (W (a0.d * a1.d))))).bind fun t1 => some t1
noncomputable def impl_sideAt.e (k : Nat) : FE := { α := S4 × S4 × Unit, β := Int, args := (lCons aS4 (lCons aS4 lNil)), ret := (rOne (aI .i64)), f := fun p => impl_sideAt.f k p.1 p.2.1 }
noncomputable def impl_sideAt.c (k : Nat) : List (Nat × CE) := [(82, .fn (impl_sign.e k))]
noncomputable def impl_sideAt.bd : Code := match Tryz.f55.body with | some c => c | none => .skip
noncomputable def impl_sideAt.g (k : Nat) : List (Nat × LE) := []
theorem impl_sideAt.link (k : Nat) (a0 : S4) (a1 : S4) : evFun (mkCx Tryz.prog (impl_sideAt.c k) (impl_sideAt.g k) : Cx Int) Tryz.f55 ((impl_sideAt.e k).args.enc (a0, a1, ())) (impl_sideAt.e k).ret.dec = impl_sideAt.f k a0 a1 := by kernel_rfl
theorem impl_sideAt.ok1 (k : Nat) (hC : AllFun Tryz.prog (impl_sideAt.c k)) : Fun Tryz.prog 55 (impl_sideAt.e k).G := fun_ok mixed (body := impl_sideAt.bd) Tryz.func55 (by kernel_rfl) (by kernel_rfl) (by kernel_rfl) hC (loops_all 0 (by kernel_rfl) fun i hi => absurd hi (Nat.not_lt_zero i)) (impl_sideAt.e k) (fun a => Nat.le_of_ble_eq_true (by kernel_rfl)) fun a b h => (impl_sideAt.link k a.1 a.2.1).trans h
theorem impl_sideAt.ok (k : Nat) : Fun Tryz.prog 55 (impl_sideAt.e k).G := impl_sideAt.ok1 k ⟨impl_sign.ok k, trivial⟩

noncomputable def impl_inCell.H3 : Hd := ⟨[], [3, 5, 8, 9, 10], [3], [], []⟩
@[reducible] def impl_inCell.A3 : Type := ((Unit × Int × (List S4) × Int × Int × Unit) × (S4 × Unit))
noncomputable def impl_inCell.Z3 : SC impl_inCell.A3 := sC impl_inCell.H3 (eCons 3 (tRef 3 0) (eCons 5 (tP (aI .i64)) (eCons 8 (tP (aSl .s4)) (eCons 9 (tP (aI .i64)) (eCons 10 (tP (aI .i64)) eNil))))) (bCons 3 (xVr cS4) bNil)
@[reducible] def impl_inCell.B3 : Type := ((Int × Unit) × (Unit))
noncomputable def impl_inCell.X3 : XC impl_inCell.B3 := xExit 0 (sC ⟨[], [5], [], [], []⟩ (eCons 5 (tP (aI .i64)) eNil) bNil)
noncomputable def impl_inCell.s3 (k : Nat)  (J : Int → (List S4) → Int → Int → S4 → Option impl_inCell.B3) (x5 : Int) (x8 : List S4) (x9 : Int) (x10 : Int) (b3 : S4) : Option impl_inCell.B3 :=
  if (decide (x10 < x9)) = true then (if 0 ≤ x10 then (if x10 < (x8.length : Int) then ((impl_sideAt.f k  (rd x8 x10) b3).bind fun t1 => J (if t1 < x5 then t1 else x5) x8 x9 (W (x10 + 1)) b3) else none) else none) else (some ((x5, ()), (())))
noncomputable def impl_inCell.l3 (k : Nat)  : Nat → Int → (List S4) → Int → Int → S4 → Option impl_inCell.B3
  | 0, _, _, _, _, _ => none
  | n + 1, x5, x8, x9, x10, b3 => impl_inCell.s3 k (impl_inCell.l3 k n) x5 x8 x9 x10 b3
noncomputable def impl_inCell.f (k : Nat) (a0 : List S4) (a1 : S4) : Option Int :=
  (impl_inCell.l3 k k 1 a0 (a0.length : Int) 0 a1).bind fun x2 => some x2.1.1
noncomputable def impl_inCell.e (k : Nat) : FE := { α := (List S4) × S4 × Unit, β := Int, args := (lCons (aSl .s4) (lCons aS4 lNil)), ret := (rOne (aI .i64)), f := fun p => impl_inCell.f k p.1 p.2.1 }
noncomputable def impl_inCell.c (k : Nat) : List (Nat × CE) := [(55, .fn (impl_sideAt.e k))]
noncomputable def impl_inCell.bd : Code := match Tryz.f29.body with | some c => c | none => .skip
noncomputable def impl_inCell.e3 (k : Nat) : LE := { H := impl_inCell.H3, α := impl_inCell.A3, β := impl_inCell.B3, st := impl_inCell.Z3, xt := impl_inCell.X3, f := fun p => impl_inCell.l3 k k p.1.2.1 p.1.2.2.1 p.1.2.2.2.1 p.1.2.2.2.2.1 p.2.1 }
noncomputable def impl_inCell.g (k : Nat) : List (Nat × LE) := [(3, impl_inCell.e3 k)]
theorem impl_inCell.t3 (k : Nat) (I : S2 → Option impl_inCell.B3) (x5 : Int) (x8 : List S4) (x9 : Int) (x10 : Int) (b3 : S4) : stepOf (mkCx Tryz.prog (impl_inCell.c k) (impl_inCell.g k) : Cx impl_inCell.B3) (loopAt impl_inCell.bd 0) impl_inCell.H3 impl_inCell.X3.dec I (impl_inCell.Z3.enc (((), x5, x8, x9, x10, ()), (b3, ()))) = impl_inCell.s3 k (fun x5 x8 x9 x10 b3 => I (impl_inCell.Z3.enc (((), x5, x8, x9, x10, ()), (b3, ())))) x5 x8 x9 x10 b3 := by kernel_rfl
theorem impl_inCell.i3 (k : Nat) : ∀ (n : Nat) (x5 : Int) (x8 : List S4) (x9 : Int) (x10 : Int) (b3 : S4), iter (evCode (mkCx Tryz.prog (impl_inCell.c k) (impl_inCell.g k) : Cx impl_inCell.B3) (loopAt impl_inCell.bd 0)) impl_inCell.H3 impl_inCell.X3.dec n (impl_inCell.Z3.enc (((), x5, x8, x9, x10, ()), (b3, ()))) = impl_inCell.l3 k n x5 x8 x9 x10 b3
  | 0, _, _, _, _, _ => rfl
  | n + 1, x5, x8, x9, x10, b3 => ((iter_step _ _ _ _ n _).trans (impl_inCell.t3 k _ x5 x8 x9 x10 b3)).trans (congrArg (fun J => impl_inCell.s3 k J x5 x8 x9 x10 b3) (funext fun x5 => funext fun x8 => funext fun x9 => funext fun x10 => funext fun b3 => impl_inCell.i3 k n x5 x8 x9 x10 b3))
theorem impl_inCell.to3 (k : Nat) (hC : AllFun Tryz.prog (impl_inCell.c k)) : LoopTo Tryz.prog 21 (impl_inCell.e3 k) (loopAt impl_inCell.bd 0) := loop_to mixed hC (by kernel_rfl) (loops_all 0 (by kernel_rfl) fun i hi => absurd hi (Nat.not_lt_zero i)) fun a b h => ⟨k, (impl_inCell.i3 k k a.1.2.1 a.1.2.2.1 a.1.2.2.2.1 a.1.2.2.2.2.1 a.2.1).trans h⟩
theorem impl_inCell.link (k : Nat) (a0 : List S4) (a1 : S4) : evFun (mkCx Tryz.prog (impl_inCell.c k) (impl_inCell.g k) : Cx Int) Tryz.f29 ((impl_inCell.e k).args.enc (a0, a1, ())) (impl_inCell.e k).ret.dec = impl_inCell.f k a0 a1 := by kernel_rfl
theorem impl_inCell.ok1 (k : Nat) (hC : AllFun Tryz.prog (impl_inCell.c k)) : Fun Tryz.prog 29 (impl_inCell.e k).G := fun_ok mixed (body := impl_inCell.bd) Tryz.func29 (by kernel_rfl) (by kernel_rfl) (by kernel_rfl) hC (loops_all 1 (by kernel_rfl) fun i hi => by obtain rfl : i = 0 := Nat.lt_one_iff.1 hi; exact ⟨impl_inCell.e3 k, by kernel_rfl, impl_inCell.to3 k hC⟩) (impl_inCell.e k) (fun a => Nat.le_of_ble_eq_true (by kernel_rfl)) fun a b h => (impl_inCell.link k a.1 a.2.1).trans h
theorem impl_inCell.ok (k : Nat) : Fun Tryz.prog 29 (impl_inCell.e k).G := impl_inCell.ok1 k ⟨impl_sideAt.ok k, trivial⟩

noncomputable def impl_InCell.f (k : Nat) (a0 : List S4) (a1 : S4) : Option Int :=
  (impl_SpotOk.f k  a1).bind fun t1 => if (!t1) = true then (some (-1)) else ((impl_Open.f k  a0).bind fun t2 => if (!t2) = true then (some (-1)) else ((impl_inCell.f k  a0 a1).bind fun t3 => some t3))
noncomputable def impl_InCell.e (k : Nat) : FE := { α := (List S4) × S4 × Unit, β := Int, args := (lCons (aSl .s4) (lCons aS4 lNil)), ret := (rOne (aI .i64)), f := fun p => impl_InCell.f k p.1 p.2.1 }
noncomputable def impl_InCell.c (k : Nat) : List (Nat × CE) := [(28, .fn (impl_SpotOk.e k)), (18, .fn (impl_Open.e k)), (29, .fn (impl_inCell.e k))]
noncomputable def impl_InCell.bd : Code := match Tryz.f11.body with | some c => c | none => .skip
noncomputable def impl_InCell.g (k : Nat) : List (Nat × LE) := []
theorem impl_InCell.link (k : Nat) (a0 : List S4) (a1 : S4) : evFun (mkCx Tryz.prog (impl_InCell.c k) (impl_InCell.g k) : Cx Int) Tryz.f11 ((impl_InCell.e k).args.enc (a0, a1, ())) (impl_InCell.e k).ret.dec = impl_InCell.f k a0 a1 := by kernel_rfl
theorem impl_InCell.ok1 (k : Nat) (hC : AllFun Tryz.prog (impl_InCell.c k)) : Fun Tryz.prog 11 (impl_InCell.e k).G := fun_ok mixed (body := impl_InCell.bd) Tryz.func11 (by kernel_rfl) (by kernel_rfl) (by kernel_rfl) hC (loops_all 0 (by kernel_rfl) fun i hi => absurd hi (Nat.not_lt_zero i)) (impl_InCell.e k) (fun a => Nat.le_of_ble_eq_true (by kernel_rfl)) fun a b h => (impl_InCell.link k a.1 a.2.1).trans h
theorem impl_InCell.ok (k : Nat) : Fun Tryz.prog 11 (impl_InCell.e k).G := impl_InCell.ok1 k ⟨impl_SpotOk.ok k, impl_Open.ok k, impl_inCell.ok k, trivial⟩

noncomputable def impl_taken.f (k : Nat) (a0 : S4) : Option S4 :=
  (impl_PlaneOk.f k  a0).bind fun t1 => if (!t1) = true then (some (⟨0, 0, 0, 0⟩ : S4)) else (some a0)
noncomputable def impl_taken.e (k : Nat) : FE := { α := S4 × Unit, β := S4, args := (lCons aS4 lNil), ret := (rOne aS4), f := fun p => impl_taken.f k p.1 }
noncomputable def impl_taken.c (k : Nat) : List (Nat × CE) := [(75, .fn (impl_PlaneOk.e k))]
noncomputable def impl_taken.bd : Code := match Tryz.f83.body with | some c => c | none => .skip
noncomputable def impl_taken.g (k : Nat) : List (Nat × LE) := []
theorem impl_taken.link (k : Nat) (a0 : S4) : evFun (mkCx Tryz.prog (impl_taken.c k) (impl_taken.g k) : Cx S4) Tryz.f83 ((impl_taken.e k).args.enc (a0, ())) (impl_taken.e k).ret.dec = impl_taken.f k a0 := by kernel_rfl
theorem impl_taken.ok1 (k : Nat) (hC : AllFun Tryz.prog (impl_taken.c k)) : Fun Tryz.prog 83 (impl_taken.e k).G := fun_ok mixed (body := impl_taken.bd) Tryz.func83 (by kernel_rfl) (by kernel_rfl) (by kernel_rfl) hC (loops_all 0 (by kernel_rfl) fun i hi => absurd hi (Nat.not_lt_zero i)) (impl_taken.e k) (fun a => Nat.le_of_ble_eq_true (by kernel_rfl)) fun a b h => (impl_taken.link k a.1).trans h
theorem impl_taken.ok (k : Nat) : Fun Tryz.prog 83 (impl_taken.e k).G := impl_taken.ok1 k ⟨impl_PlaneOk.ok k, trivial⟩

noncomputable def impl_Rank.H4 : Hd := ⟨[], [3, 4, 8, 9, 10], [3], [], []⟩
@[reducible] def impl_Rank.A4 : Type := ((Unit × Int × (List S4) × Int × Int × Unit) × (((Int × Int × Int × Int × Int × Int × Unit)) × Unit))
noncomputable def impl_Rank.Z4 : SC impl_Rank.A4 := sC impl_Rank.H4 (eCons 3 (tRef 3 0) (eCons 4 (tP (aI .i64)) (eCons 8 (tP (aSl .s4)) (eCons 9 (tP (aI .i64)) (eCons 10 (tP (aI .i64)) eNil))))) (bCons 3 (xVr (lCons (aI .i64) (lCons (aI .i64) (lCons (aI .i64) (lCons (aI .i64) (lCons (aI .i64) (lCons (aI .i64) lNil))))))) bNil)
@[reducible] def impl_Rank.B4 : Type := ((Int × Unit) × (Unit)) ⊕ ((Int × Unit) × (Unit))
noncomputable def impl_Rank.X4 : XC impl_Rank.B4 := xOr (xRet (sC ⟨[], [2], [], [], []⟩ (eCons 2 (tP (aI .i64)) eNil) bNil)) (xExit 0 (sC ⟨[], [4], [], [], []⟩ (eCons 4 (tP (aI .i64)) eNil) bNil))
noncomputable def impl_Rank.s4 (k : Nat)  (J : Int → (List S4) → Int → Int → (Int × Int × Int × Int × Int × Int × Unit) → Option impl_Rank.B4) (x4 : Int) (x8 : List S4) (x9 : Int) (x10 : Int) (b3 : (Int × Int × Int × Int × Int × Int × Unit)) : Option impl_Rank.B4 :=
  if (decide (x10 < x9)) = true then (if 0 ≤ x10 then (if x10 < (x8.length : Int) then ((impl_taken.f k  (rd x8 x10)).bind fun t1 => (impl_normal.f k  t1).bind fun t2 => if (x4 == 0) = true then (if (!((t2.x == 0) && ((t2.y == 0) && (t2.z == 0)))) = true then (J 1 x8 x9 (W (x10 + 1)) (t2.x, t2.y, t2.z, b3.2.2.2.1, b3.2.2.2.2.1, b3.2.2.2.2.2.1, ())) else (if (x4 == 1) = true then ((impl_crossOf.f k  (⟨b3.1, b3.2.1, b3.2.2.1⟩ : S3) t2).bind fun t3 => if (!((t3.x == 0) && ((t3.y == 0) && (t3.z == 0)))) = true then (J 2 x8 x9 (W (x10 + 1)) (b3.1, b3.2.1, b3.2.2.1, t2.x, t2.y, t2.z, ())) else (if (x4 == 2) = true then ((impl_det.f k  (⟨b3.1, b3.2.1, b3.2.2.1⟩ : S3) (⟨b3.2.2.2.1, b3.2.2.2.2.1, b3.2.2.2.2.2.1⟩ : S3) t2).bind fun t4 => if (t4 != 0) = true then (some (.inl ((3, ()), (())))) else (J x4 x8 x9 (W (x10 + 1)) (b3.1, b3.2.1, b3.2.2.1, b3.2.2.2.1, b3.2.2.2.2.1, b3.2.2.2.2.2.1, ()))) else (J x4 x8 x9 (W (x10 + 1)) (b3.1, b3.2.1, b3.2.2.1, b3.2.2.2.1, b3.2.2.2.2.1, b3.2.2.2.2.2.1, ())))) else (if (x4 == 2) = true then ((impl_det.f k  (⟨b3.1, b3.2.1, b3.2.2.1⟩ : S3) (⟨b3.2.2.2.1, b3.2.2.2.2.1, b3.2.2.2.2.2.1⟩ : S3) t2).bind fun t5 => if (t5 != 0) = true then (some (.inl ((3, ()), (())))) else (J x4 x8 x9 (W (x10 + 1)) (b3.1, b3.2.1, b3.2.2.1, b3.2.2.2.1, b3.2.2.2.2.1, b3.2.2.2.2.2.1, ()))) else (J x4 x8 x9 (W (x10 + 1)) (b3.1, b3.2.1, b3.2.2.1, b3.2.2.2.1, b3.2.2.2.2.1, b3.2.2.2.2.2.1, ()))))) else (if (x4 == 1) = true then ((impl_crossOf.f k  (⟨b3.1, b3.2.1, b3.2.2.1⟩ : S3) t2).bind fun t6 => if (!((t6.x == 0) && ((t6.y == 0) && (t6.z == 0)))) = true then (J 2 x8 x9 (W (x10 + 1)) (b3.1, b3.2.1, b3.2.2.1, t2.x, t2.y, t2.z, ())) else (if (x4 == 2) = true then ((impl_det.f k  (⟨b3.1, b3.2.1, b3.2.2.1⟩ : S3) (⟨b3.2.2.2.1, b3.2.2.2.2.1, b3.2.2.2.2.2.1⟩ : S3) t2).bind fun t7 => if (t7 != 0) = true then (some (.inl ((3, ()), (())))) else (J x4 x8 x9 (W (x10 + 1)) (b3.1, b3.2.1, b3.2.2.1, b3.2.2.2.1, b3.2.2.2.2.1, b3.2.2.2.2.2.1, ()))) else (J x4 x8 x9 (W (x10 + 1)) (b3.1, b3.2.1, b3.2.2.1, b3.2.2.2.1, b3.2.2.2.2.1, b3.2.2.2.2.2.1, ())))) else (if (x4 == 2) = true then ((impl_det.f k  (⟨b3.1, b3.2.1, b3.2.2.1⟩ : S3) (⟨b3.2.2.2.1, b3.2.2.2.2.1, b3.2.2.2.2.2.1⟩ : S3) t2).bind fun t8 => if (t8 != 0) = true then (some (.inl ((3, ()), (())))) else (J x4 x8 x9 (W (x10 + 1)) (b3.1, b3.2.1, b3.2.2.1, b3.2.2.2.1, b3.2.2.2.2.1, b3.2.2.2.2.2.1, ()))) else (J x4 x8 x9 (W (x10 + 1)) (b3.1, b3.2.1, b3.2.2.1, b3.2.2.2.1, b3.2.2.2.2.1, b3.2.2.2.2.2.1, ()))))) else none) else none) else (some (.inr ((x4, ()), (()))))
noncomputable def impl_Rank.l4 (k : Nat)  : Nat → Int → (List S4) → Int → Int → (Int × Int × Int × Int × Int × Int × Unit) → Option impl_Rank.B4
  | 0, _, _, _, _, _ => none
  | n + 1, x4, x8, x9, x10, b3 => impl_Rank.s4 k (impl_Rank.l4 k n) x4 x8 x9 x10 b3
noncomputable def impl_Rank.f (k : Nat) (a0 : List S4) : Option Int :=
  (impl_Rank.l4 k k 0 a0 (a0.length : Int) 0 (0, 0, 0, 0, 0, 0, ())).bind fun | .inl r9 => (some r9.1.1) | .inr x10 => (some x10.1.1)
noncomputable def impl_Rank.e (k : Nat) : FE := { α := (List S4) × Unit, β := Int, args := (lCons (aSl .s4) lNil), ret := (rOne (aI .i64)), f := fun p => impl_Rank.f k p.1 }
noncomputable def impl_Rank.c (k : Nat) : List (Nat × CE) := [(83, .fn (impl_taken.e k)), (58, .fn (impl_normal.e k)), (57, .fn (impl_crossOf.e k)), (84, .fn (impl_det.e k))]
noncomputable def impl_Rank.bd : Code := match Tryz.f56.body with | some c => c | none => .skip
noncomputable def impl_Rank.e4 (k : Nat) : LE := { H := impl_Rank.H4, α := impl_Rank.A4, β := impl_Rank.B4, st := impl_Rank.Z4, xt := impl_Rank.X4, f := fun p => impl_Rank.l4 k k p.1.2.1 p.1.2.2.1 p.1.2.2.2.1 p.1.2.2.2.2.1 p.2.1 }
noncomputable def impl_Rank.g (k : Nat) : List (Nat × LE) := [(4, impl_Rank.e4 k)]
theorem impl_Rank.t4 (k : Nat) (I : S2 → Option impl_Rank.B4) (x4 : Int) (x8 : List S4) (x9 : Int) (x10 : Int) (b3 : (Int × Int × Int × Int × Int × Int × Unit)) : stepOf (mkCx Tryz.prog (impl_Rank.c k) (impl_Rank.g k) : Cx impl_Rank.B4) (loopAt impl_Rank.bd 0) impl_Rank.H4 impl_Rank.X4.dec I (impl_Rank.Z4.enc (((), x4, x8, x9, x10, ()), (b3, ()))) = impl_Rank.s4 k (fun x4 x8 x9 x10 b3 => I (impl_Rank.Z4.enc (((), x4, x8, x9, x10, ()), (b3, ())))) x4 x8 x9 x10 b3 := by kernel_rfl
theorem impl_Rank.i4 (k : Nat) : ∀ (n : Nat) (x4 : Int) (x8 : List S4) (x9 : Int) (x10 : Int) (b3 : (Int × Int × Int × Int × Int × Int × Unit)), iter (evCode (mkCx Tryz.prog (impl_Rank.c k) (impl_Rank.g k) : Cx impl_Rank.B4) (loopAt impl_Rank.bd 0)) impl_Rank.H4 impl_Rank.X4.dec n (impl_Rank.Z4.enc (((), x4, x8, x9, x10, ()), (b3, ()))) = impl_Rank.l4 k n x4 x8 x9 x10 b3
  | 0, _, _, _, _, _ => rfl
  | n + 1, x4, x8, x9, x10, b3 => ((iter_step _ _ _ _ n _).trans (impl_Rank.t4 k _ x4 x8 x9 x10 b3)).trans (congrArg (fun J => impl_Rank.s4 k J x4 x8 x9 x10 b3) (funext fun x4 => funext fun x8 => funext fun x9 => funext fun x10 => funext fun b3 => impl_Rank.i4 k n x4 x8 x9 x10 b3))
theorem impl_Rank.to4 (k : Nat) (hC : AllFun Tryz.prog (impl_Rank.c k)) : LoopTo Tryz.prog 54 (impl_Rank.e4 k) (loopAt impl_Rank.bd 0) := loop_to mixed hC (by kernel_rfl) (loops_all 0 (by kernel_rfl) fun i hi => absurd hi (Nat.not_lt_zero i)) fun a b h => ⟨k, (impl_Rank.i4 k k a.1.2.1 a.1.2.2.1 a.1.2.2.2.1 a.1.2.2.2.2.1 a.2.1).trans h⟩
theorem impl_Rank.link (k : Nat) (a0 : List S4) : evFun (mkCx Tryz.prog (impl_Rank.c k) (impl_Rank.g k) : Cx Int) Tryz.f56 ((impl_Rank.e k).args.enc (a0, ())) (impl_Rank.e k).ret.dec = impl_Rank.f k a0 := by kernel_rfl
theorem impl_Rank.ok1 (k : Nat) (hC : AllFun Tryz.prog (impl_Rank.c k)) : Fun Tryz.prog 56 (impl_Rank.e k).G := fun_ok mixed (body := impl_Rank.bd) Tryz.func56 (by kernel_rfl) (by kernel_rfl) (by kernel_rfl) hC (loops_all 1 (by kernel_rfl) fun i hi => by obtain rfl : i = 0 := Nat.lt_one_iff.1 hi; exact ⟨impl_Rank.e4 k, by kernel_rfl, impl_Rank.to4 k hC⟩) (impl_Rank.e k) (fun a => Nat.le_of_ble_eq_true (by kernel_rfl)) fun a b h => (impl_Rank.link k a.1).trans h
theorem impl_Rank.ok (k : Nat) : Fun Tryz.prog 56 (impl_Rank.e k).G := impl_Rank.ok1 k ⟨impl_taken.ok k, impl_normal.ok k, impl_crossOf.ok k, impl_det.ok k, trivial⟩

end Go.Proofs.YtalkkenkeilmpaaGreat.G
