/- Go functions told as plain Lean functions; that the code does what these tell. Printed by a program of the session (evp.py). -/
import Derived.Test.YtalkkenkeilmpaaGreatEv16
namespace Go.Proofs.YtalkkenkeilmpaaGreat.G
open Go Go.RowKit Go.Proofs Go.Proofs.YtalkkenkeilmpaaGreat.Ev
set_option linter.unusedVariables false
set_option maxRecDepth 100000

noncomputable def cmp_Or_int.H3 : Hd := ⟨[], [3, 6, 7, 8], [], [], []⟩
@[reducible] def cmp_Or_int.A3 : Type := ((Int × (List Int) × Int × Int × Unit) × (Unit))
noncomputable def cmp_Or_int.Z3 : SC cmp_Or_int.A3 := sC cmp_Or_int.H3 (eCons 3 (tP (aI .i64)) (eCons 6 (tP (aSl (.i .i64))) (eCons 7 (tP (aI .i64)) (eCons 8 (tP (aI .i64)) eNil)))) bNil
@[reducible] def cmp_Or_int.B3 : Type := ((Int × Unit) × (Unit)) ⊕ ((Int × Unit) × (Unit))
noncomputable def cmp_Or_int.X3 : XC cmp_Or_int.B3 := xOr (xRet (sC ⟨[], [2], [], [], []⟩ (eCons 2 (tP (aI .i64)) eNil) bNil)) (xExit 0 (sC ⟨[], [3], [], [], []⟩ (eCons 3 (tP (aI .i64)) eNil) bNil))
noncomputable def cmp_Or_int.s3 (k : Nat)  (J : Int → (List Int) → Int → Int → Option cmp_Or_int.B3) (x3 : Int) (x6 : List Int) (x7 : Int) (x8 : Int) : Option cmp_Or_int.B3 :=
  if (decide (x8 < x7)) = true then (if 0 ≤ x8 then (if x8 < (x6.length : Int) then (if ((rd x6 x8) != x3) = true then (some (.inl (((rd x6 x8), ()), (())))) else (J x3 x6 x7 (W (x8 + 1)))) else none) else none) else (some (.inr ((x3, ()), (()))))
noncomputable def cmp_Or_int.l3 (k : Nat)  : Nat → Int → (List Int) → Int → Int → Option cmp_Or_int.B3
  | 0, _, _, _, _ => none
  | n + 1, x3, x6, x7, x8 => cmp_Or_int.s3 k (cmp_Or_int.l3 k n) x3 x6 x7 x8
noncomputable def cmp_Or_int.f (k : Nat) (a0 : List Int) : Option Int :=
  (cmp_Or_int.l3 k k 0 a0 (a0.length : Int) 0).bind fun | .inl r1 => (some r1.1.1) | .inr x2 => (some x2.1.1)
noncomputable def cmp_Or_int.e (k : Nat) : FE := { α := (List Int) × Unit, β := Int, args := (lCons (aSl (.i .i64)) lNil), ret := (rOne (aI .i64)), f := fun p => cmp_Or_int.f k p.1 }
noncomputable def cmp_Or_int.c (k : Nat) : List (Nat × CE) := []
noncomputable def cmp_Or_int.bd : Code := match Tryz.f89.body with | some c => c | none => .skip
noncomputable def cmp_Or_int.e3 (k : Nat) : LE := { H := cmp_Or_int.H3, α := cmp_Or_int.A3, β := cmp_Or_int.B3, st := cmp_Or_int.Z3, xt := cmp_Or_int.X3, f := fun p => cmp_Or_int.l3 k k p.1.1 p.1.2.1 p.1.2.2.1 p.1.2.2.2.1 }
noncomputable def cmp_Or_int.g (k : Nat) : List (Nat × LE) := [(3, cmp_Or_int.e3 k)]
theorem cmp_Or_int.t3 (k : Nat) (I : S2 → Option cmp_Or_int.B3) (x3 : Int) (x6 : List Int) (x7 : Int) (x8 : Int) : stepOf (mkCx Tryz.prog (cmp_Or_int.c k) (cmp_Or_int.g k) : Cx cmp_Or_int.B3) (loopAt cmp_Or_int.bd 0) cmp_Or_int.H3 cmp_Or_int.X3.dec I (cmp_Or_int.Z3.enc ((x3, x6, x7, x8, ()), (()))) = cmp_Or_int.s3 k (fun x3 x6 x7 x8 => I (cmp_Or_int.Z3.enc ((x3, x6, x7, x8, ()), (())))) x3 x6 x7 x8 := by kernel_rfl
theorem cmp_Or_int.i3 (k : Nat) : ∀ (n : Nat) (x3 : Int) (x6 : List Int) (x7 : Int) (x8 : Int), iter (evCode (mkCx Tryz.prog (cmp_Or_int.c k) (cmp_Or_int.g k) : Cx cmp_Or_int.B3) (loopAt cmp_Or_int.bd 0)) cmp_Or_int.H3 cmp_Or_int.X3.dec n (cmp_Or_int.Z3.enc ((x3, x6, x7, x8, ()), (()))) = cmp_Or_int.l3 k n x3 x6 x7 x8
  | 0, _, _, _, _ => rfl
  | n + 1, x3, x6, x7, x8 => ((iter_step _ _ _ _ n _).trans (cmp_Or_int.t3 k _ x3 x6 x7 x8)).trans (congrArg (fun J => cmp_Or_int.s3 k J x3 x6 x7 x8) (funext fun x3 => funext fun x6 => funext fun x7 => funext fun x8 => cmp_Or_int.i3 k n x3 x6 x7 x8))
theorem cmp_Or_int.to3 (k : Nat) (hC : AllFun Tryz.prog (cmp_Or_int.c k)) : LoopTo Tryz.prog 18 (cmp_Or_int.e3 k) (loopAt cmp_Or_int.bd 0) := loop_to mixed hC (by kernel_rfl) (loops_all 0 (by kernel_rfl) fun i hi => absurd hi (Nat.not_lt_zero i)) fun a b h => ⟨k, (cmp_Or_int.i3 k k a.1.1 a.1.2.1 a.1.2.2.1 a.1.2.2.2.1).trans h⟩
theorem cmp_Or_int.link (k : Nat) (a0 : List Int) : evFun (mkCx Tryz.prog (cmp_Or_int.c k) (cmp_Or_int.g k) : Cx Int) Tryz.f89 ((cmp_Or_int.e k).args.enc (a0, ())) (cmp_Or_int.e k).ret.dec = cmp_Or_int.f k a0 := by kernel_rfl
theorem cmp_Or_int.ok1 (k : Nat) (hC : AllFun Tryz.prog (cmp_Or_int.c k)) : Fun Tryz.prog 89 (cmp_Or_int.e k).G := fun_ok mixed (body := cmp_Or_int.bd) Tryz.func89 (by kernel_rfl) (by kernel_rfl) (by kernel_rfl) hC (loops_all 1 (by kernel_rfl) fun i hi => by obtain rfl : i = 0 := Nat.lt_one_iff.1 hi; exact ⟨cmp_Or_int.e3 k, by kernel_rfl, cmp_Or_int.to3 k hC⟩) (cmp_Or_int.e k) (fun a => Nat.le_of_ble_eq_true (by kernel_rfl)) fun a b h => (cmp_Or_int.link k a.1).trans h
theorem cmp_Or_int.ok (k : Nat) : Fun Tryz.prog 89 (cmp_Or_int.e k).G := cmp_Or_int.ok1 k trivial

noncomputable def cmp_isNaN_int.f (k : Nat) (a0 : Int) : Option Bool :=
  some (a0 != a0)
noncomputable def cmp_isNaN_int.e (k : Nat) : FE := { α := Int × Unit, β := Bool, args := (lCons (aI .i64) lNil), ret := (rOne aB), f := fun p => cmp_isNaN_int.f k p.1 }
noncomputable def cmp_isNaN_int.c (k : Nat) : List (Nat × CE) := []
noncomputable def cmp_isNaN_int.bd : Code := match Tryz.f110.body with | some c => c | none => .skip
noncomputable def cmp_isNaN_int.g (k : Nat) : List (Nat × LE) := []
theorem cmp_isNaN_int.link (k : Nat) (a0 : Int) : evFun (mkCx Tryz.prog (cmp_isNaN_int.c k) (cmp_isNaN_int.g k) : Cx Bool) Tryz.f110 ((cmp_isNaN_int.e k).args.enc (a0, ())) (cmp_isNaN_int.e k).ret.dec = cmp_isNaN_int.f k a0 := by kernel_rfl
theorem cmp_isNaN_int.ok1 (k : Nat) (hC : AllFun Tryz.prog (cmp_isNaN_int.c k)) : Fun Tryz.prog 110 (cmp_isNaN_int.e k).G := fun_ok mixed (body := cmp_isNaN_int.bd) Tryz.func110 (by kernel_rfl) (by kernel_rfl) (by kernel_rfl) hC (loops_all 0 (by kernel_rfl) fun i hi => absurd hi (Nat.not_lt_zero i)) (cmp_isNaN_int.e k) (fun a => Nat.le_of_ble_eq_true (by kernel_rfl)) fun a b h => (cmp_isNaN_int.link k a.1).trans h
theorem cmp_isNaN_int.ok (k : Nat) : Fun Tryz.prog 110 (cmp_isNaN_int.e k).G := cmp_isNaN_int.ok1 k trivial

noncomputable def cmp_Compare_int.f (k : Nat) (a0 : Int) (a1 : Int) : Option Int :=
  (cmp_isNaN_int.f k  a0).bind fun t1 => (cmp_isNaN_int.f k  a1).bind fun t2 => if t1 = true then (if t2 = true then (some 0) else (some (-1))) else (if t2 = true then (some 1) else (if (decide (a0 < a1)) = true then (some (-1)) else (if (decide (a0 > a1)) = true then (some 1) else (some 0))))
noncomputable def cmp_Compare_int.e (k : Nat) : FE := { α := Int × Int × Unit, β := Int, args := (lCons (aI .i64) (lCons (aI .i64) lNil)), ret := (rOne (aI .i64)), f := fun p => cmp_Compare_int.f k p.1 p.2.1 }
noncomputable def cmp_Compare_int.c (k : Nat) : List (Nat × CE) := [(110, .fn (cmp_isNaN_int.e k))]
noncomputable def cmp_Compare_int.bd : Code := match Tryz.f90.body with | some c => c | none => .skip
noncomputable def cmp_Compare_int.g (k : Nat) : List (Nat × LE) := []
theorem cmp_Compare_int.link (k : Nat) (a0 : Int) (a1 : Int) : evFun (mkCx Tryz.prog (cmp_Compare_int.c k) (cmp_Compare_int.g k) : Cx Int) Tryz.f90 ((cmp_Compare_int.e k).args.enc (a0, a1, ())) (cmp_Compare_int.e k).ret.dec = cmp_Compare_int.f k a0 a1 := by kernel_rfl
theorem cmp_Compare_int.ok1 (k : Nat) (hC : AllFun Tryz.prog (cmp_Compare_int.c k)) : Fun Tryz.prog 90 (cmp_Compare_int.e k).G := fun_ok mixed (body := cmp_Compare_int.bd) Tryz.func90 (by kernel_rfl) (by kernel_rfl) (by kernel_rfl) hC (loops_all 0 (by kernel_rfl) fun i hi => absurd hi (Nat.not_lt_zero i)) (cmp_Compare_int.e k) (fun a => Nat.le_of_ble_eq_true (by kernel_rfl)) fun a b h => (cmp_Compare_int.link k a.1 a.2.1).trans h
theorem cmp_Compare_int.ok (k : Nat) : Fun Tryz.prog 90 (cmp_Compare_int.e k).G := cmp_Compare_int.ok1 k ⟨cmp_isNaN_int.ok k, trivial⟩

noncomputable def impl_cmpSpot.f (k : Nat) (a0 : S4) (a1 : S4) : Option Int :=
  (cmp_Compare_int.f k  (W (a0.a * a1.d)) (W (a1.a * a0.d))).bind fun t1 => (cmp_Compare_int.f k  (W (a0.b * a1.d)) (W (a1.b * a0.d))).bind fun t2 => (cmp_Compare_int.f k  (W (a0.c * a1.d)) (W (a1.c * a0.d))).bind fun t3 => (cmp_Or_int.f k  ([t1, t2, t3] : List Int)).bind fun t4 => some t4
noncomputable def impl_cmpSpot.e (k : Nat) : FE := { α := S4 × S4 × Unit, β := Int, args := (lCons aS4 (lCons aS4 lNil)), ret := (rOne (aI .i64)), f := fun p => impl_cmpSpot.f k p.1 p.2.1 }
noncomputable def impl_cmpSpot.c (k : Nat) : List (Nat × CE) := [(90, .fn (cmp_Compare_int.e k)), (89, .fn (cmp_Or_int.e k))]
noncomputable def impl_cmpSpot.bd : Code := match Tryz.f62.body with | some c => c | none => .skip
noncomputable def impl_cmpSpot.g (k : Nat) : List (Nat × LE) := []
theorem impl_cmpSpot.link (k : Nat) (a0 : S4) (a1 : S4) : evFun (mkCx Tryz.prog (impl_cmpSpot.c k) (impl_cmpSpot.g k) : Cx Int) Tryz.f62 ((impl_cmpSpot.e k).args.enc (a0, a1, ())) (impl_cmpSpot.e k).ret.dec = impl_cmpSpot.f k a0 a1 := by kernel_rfl
theorem impl_cmpSpot.ok1 (k : Nat) (hC : AllFun Tryz.prog (impl_cmpSpot.c k)) : Fun Tryz.prog 62 (impl_cmpSpot.e k).G := fun_ok mixed (body := impl_cmpSpot.bd) Tryz.func62 (by kernel_rfl) (by kernel_rfl) (by kernel_rfl) hC (loops_all 0 (by kernel_rfl) fun i hi => absurd hi (Nat.not_lt_zero i)) (impl_cmpSpot.e k) (fun a => Nat.le_of_ble_eq_true (by kernel_rfl)) fun a b h => (impl_cmpSpot.link k a.1 a.2.1).trans h
theorem impl_cmpSpot.ok (k : Nat) : Fun Tryz.prog 62 (impl_cmpSpot.e k).G := impl_cmpSpot.ok1 k ⟨cmp_Compare_int.ok k, cmp_Or_int.ok k, trivial⟩

end Go.Proofs.YtalkkenkeilmpaaGreat.G
