/- Go functions told as plain Lean functions; that the code does what these tell. Printed by a program of the session (evp.py). -/
import Derived.Test.YtfgaeenlnkioaaaEv16
import Derived.Test.YtfgaeenlnkioaaaG1
namespace Go.Proofs.Ytfgaeenlnkioaaa.G
open Go Go.RowKit Go.Proofs Go.Proofs.Ytfgaeenlnkioaaa.Ev
set_option linter.unusedVariables false
set_option maxRecDepth 100000

noncomputable def impl_crossOf.f (k : Nat) (a0 : S3) (a1 : S3) : Option S3 :=
  some (⟨(W ((W (a0.y * a1.z)) - (W (a0.z * a1.y)))), (W ((W (a0.z * a1.x)) - (W (a0.x * a1.z)))), (W ((W (a0.x * a1.y)) - (W (a0.y * a1.x))))⟩ : S3)
noncomputable def impl_crossOf.e (k : Nat) : FE := { α := S3 × S3 × Unit, β := S3, args := (lCons aS3 (lCons aS3 lNil)), ret := (rOne aS3), f := fun p => impl_crossOf.f k p.1 p.2.1 }
noncomputable def impl_crossOf.c (k : Nat) : List (Nat × CE) := []
noncomputable def impl_crossOf.bd : Code := match Try.f126.body with | some c => c | none => .skip
noncomputable def impl_crossOf.g (k : Nat) : List (Nat × LE) := []
theorem impl_crossOf.link (k : Nat) (a0 : S3) (a1 : S3) : evFun (mkCx Try.prog (impl_crossOf.c k) (impl_crossOf.g k) : Cx S3) Try.f126 ((impl_crossOf.e k).args.enc (a0, a1, ())) (impl_crossOf.e k).ret.dec = impl_crossOf.f k a0 a1 := by kernel_rfl
theorem impl_crossOf.ok1 (k : Nat) (hC : AllFun Try.prog (impl_crossOf.c k)) : Fun Try.prog 126 (impl_crossOf.e k).G := fun_ok mixed (body := impl_crossOf.bd) Try.func126 (by kernel_rfl) (by kernel_rfl) (by kernel_rfl) hC (loops_all 0 (by kernel_rfl) fun i hi => absurd hi (Nat.not_lt_zero i)) (impl_crossOf.e k) (fun a => Nat.le_of_ble_eq_true (by kernel_rfl)) fun a b h => (impl_crossOf.link k a.1 a.2.1).trans h
theorem impl_crossOf.ok (k : Nat) : Fun Try.prog 126 (impl_crossOf.e k).G := impl_crossOf.ok1 k trivial

noncomputable def impl_dot.f (k : Nat) (a0 : S3) (a1 : S3) : Option Int :=
  some (W ((W ((W (a0.x * a1.x)) + (W (a0.y * a1.y)))) + (W (a0.z * a1.z))))
noncomputable def impl_dot.e (k : Nat) : FE := { α := S3 × S3 × Unit, β := Int, args := (lCons aS3 (lCons aS3 lNil)), ret := (rOne (aI .i64)), f := fun p => impl_dot.f k p.1 p.2.1 }
noncomputable def impl_dot.c (k : Nat) : List (Nat × CE) := []
noncomputable def impl_dot.bd : Code := match Try.f128.body with | some c => c | none => .skip
noncomputable def impl_dot.g (k : Nat) : List (Nat × LE) := []
theorem impl_dot.link (k : Nat) (a0 : S3) (a1 : S3) : evFun (mkCx Try.prog (impl_dot.c k) (impl_dot.g k) : Cx Int) Try.f128 ((impl_dot.e k).args.enc (a0, a1, ())) (impl_dot.e k).ret.dec = impl_dot.f k a0 a1 := by kernel_rfl
theorem impl_dot.ok1 (k : Nat) (hC : AllFun Try.prog (impl_dot.c k)) : Fun Try.prog 128 (impl_dot.e k).G := fun_ok mixed (body := impl_dot.bd) Try.func128 (by kernel_rfl) (by kernel_rfl) (by kernel_rfl) hC (loops_all 0 (by kernel_rfl) fun i hi => absurd hi (Nat.not_lt_zero i)) (impl_dot.e k) (fun a => Nat.le_of_ble_eq_true (by kernel_rfl)) fun a b h => (impl_dot.link k a.1 a.2.1).trans h
theorem impl_dot.ok (k : Nat) : Fun Try.prog 128 (impl_dot.e k).G := impl_dot.ok1 k trivial

noncomputable def cmp_isNaN_int.f (k : Nat) (a0 : Int) : Option Bool :=
  some (a0 != a0)
noncomputable def cmp_isNaN_int.e (k : Nat) : FE := { α := Int × Unit, β := Bool, args := (lCons (aI .i64) lNil), ret := (rOne aB), f := fun p => cmp_isNaN_int.f k p.1 }
noncomputable def cmp_isNaN_int.c (k : Nat) : List (Nat × CE) := []
noncomputable def cmp_isNaN_int.bd : Code := match Try.f137.body with | some c => c | none => .skip
noncomputable def cmp_isNaN_int.g (k : Nat) : List (Nat × LE) := []
theorem cmp_isNaN_int.link (k : Nat) (a0 : Int) : evFun (mkCx Try.prog (cmp_isNaN_int.c k) (cmp_isNaN_int.g k) : Cx Bool) Try.f137 ((cmp_isNaN_int.e k).args.enc (a0, ())) (cmp_isNaN_int.e k).ret.dec = cmp_isNaN_int.f k a0 := by kernel_rfl
theorem cmp_isNaN_int.ok1 (k : Nat) (hC : AllFun Try.prog (cmp_isNaN_int.c k)) : Fun Try.prog 137 (cmp_isNaN_int.e k).G := fun_ok mixed (body := cmp_isNaN_int.bd) Try.func137 (by kernel_rfl) (by kernel_rfl) (by kernel_rfl) hC (loops_all 0 (by kernel_rfl) fun i hi => absurd hi (Nat.not_lt_zero i)) (cmp_isNaN_int.e k) (fun a => Nat.le_of_ble_eq_true (by kernel_rfl)) fun a b h => (cmp_isNaN_int.link k a.1).trans h
theorem cmp_isNaN_int.ok (k : Nat) : Fun Try.prog 137 (cmp_isNaN_int.e k).G := cmp_isNaN_int.ok1 k trivial

noncomputable def cmp_Compare_int.f (k : Nat) (a0 : Int) (a1 : Int) : Option Int :=
  (cmp_isNaN_int.f k  a0).bind fun t1 => (cmp_isNaN_int.f k  a1).bind fun t2 => if t1 = true then (if t2 = true then (some 0) else (some (-1))) else (if t2 = true then (some 1) else (if (decide (a0 < a1)) = true then (some (-1)) else (if (decide (a0 > a1)) = true then (some 1) else (some 0))))
noncomputable def cmp_Compare_int.e (k : Nat) : FE := { α := Int × Int × Unit, β := Int, args := (lCons (aI .i64) (lCons (aI .i64) lNil)), ret := (rOne (aI .i64)), f := fun p => cmp_Compare_int.f k p.1 p.2.1 }
noncomputable def cmp_Compare_int.c (k : Nat) : List (Nat × CE) := [(137, .fn (cmp_isNaN_int.e k))]
noncomputable def cmp_Compare_int.bd : Code := match Try.f136.body with | some c => c | none => .skip
noncomputable def cmp_Compare_int.g (k : Nat) : List (Nat × LE) := []
theorem cmp_Compare_int.link (k : Nat) (a0 : Int) (a1 : Int) : evFun (mkCx Try.prog (cmp_Compare_int.c k) (cmp_Compare_int.g k) : Cx Int) Try.f136 ((cmp_Compare_int.e k).args.enc (a0, a1, ())) (cmp_Compare_int.e k).ret.dec = cmp_Compare_int.f k a0 a1 := by kernel_rfl
theorem cmp_Compare_int.ok1 (k : Nat) (hC : AllFun Try.prog (cmp_Compare_int.c k)) : Fun Try.prog 136 (cmp_Compare_int.e k).G := fun_ok mixed (body := cmp_Compare_int.bd) Try.func136 (by kernel_rfl) (by kernel_rfl) (by kernel_rfl) hC (loops_all 0 (by kernel_rfl) fun i hi => absurd hi (Nat.not_lt_zero i)) (cmp_Compare_int.e k) (fun a => Nat.le_of_ble_eq_true (by kernel_rfl)) fun a b h => (cmp_Compare_int.link k a.1 a.2.1).trans h
theorem cmp_Compare_int.ok (k : Nat) : Fun Try.prog 136 (cmp_Compare_int.e k).G := cmp_Compare_int.ok1 k ⟨cmp_isNaN_int.ok k, trivial⟩

noncomputable def impl_sign.f (k : Nat) (a0 : Int) : Option Int :=
  (cmp_Compare_int.f k  a0 0).bind fun t1 => some t1
noncomputable def impl_sign.e (k : Nat) : FE := { α := Int × Unit, β := Int, args := (lCons (aI .i64) lNil), ret := (rOne (aI .i64)), f := fun p => impl_sign.f k p.1 }
noncomputable def impl_sign.c (k : Nat) : List (Nat × CE) := [(136, .fn (cmp_Compare_int.e k))]
noncomputable def impl_sign.bd : Code := match Try.f131.body with | some c => c | none => .skip
noncomputable def impl_sign.g (k : Nat) : List (Nat × LE) := []
theorem impl_sign.link (k : Nat) (a0 : Int) : evFun (mkCx Try.prog (impl_sign.c k) (impl_sign.g k) : Cx Int) Try.f131 ((impl_sign.e k).args.enc (a0, ())) (impl_sign.e k).ret.dec = impl_sign.f k a0 := by kernel_rfl
theorem impl_sign.ok1 (k : Nat) (hC : AllFun Try.prog (impl_sign.c k)) : Fun Try.prog 131 (impl_sign.e k).G := fun_ok mixed (body := impl_sign.bd) Try.func131 (by kernel_rfl) (by kernel_rfl) (by kernel_rfl) hC (loops_all 0 (by kernel_rfl) fun i hi => absurd hi (Nat.not_lt_zero i)) (impl_sign.e k) (fun a => Nat.le_of_ble_eq_true (by kernel_rfl)) fun a b h => (impl_sign.link k a.1).trans h
theorem impl_sign.ok (k : Nat) : Fun Try.prog 131 (impl_sign.e k).G := impl_sign.ok1 k ⟨cmp_Compare_int.ok k, trivial⟩

noncomputable def impl_parallel.f (k : Nat) (a0 : S4) (a1 : S4) : Option Int :=
  (impl_normal.f k  a0).bind fun t1 => (impl_normal.f k  a1).bind fun t2 => (impl_crossOf.f k  t1 t2).bind fun t3 => if (!((t3.x == 0) && ((t3.y == 0) && (t3.z == 0)))) = true then (some 0) else ((impl_normal.f k  a0).bind fun t4 => (impl_normal.f k  a1).bind fun t5 => (impl_dot.f k  t4 t5).bind fun t6 => (impl_sign.f k  t6).bind fun t7 => some t7)
noncomputable def impl_parallel.e (k : Nat) : FE := { α := S4 × S4 × Unit, β := Int, args := (lCons aS4 (lCons aS4 lNil)), ret := (rOne (aI .i64)), f := fun p => impl_parallel.f k p.1 p.2.1 }
noncomputable def impl_parallel.c (k : Nat) : List (Nat × CE) := [(124, .fn (impl_normal.e k)), (126, .fn (impl_crossOf.e k)), (128, .fn (impl_dot.e k)), (131, .fn (impl_sign.e k))]
noncomputable def impl_parallel.bd : Code := match Try.f123.body with | some c => c | none => .skip
noncomputable def impl_parallel.g (k : Nat) : List (Nat × LE) := []
theorem impl_parallel.link (k : Nat) (a0 : S4) (a1 : S4) : evFun (mkCx Try.prog (impl_parallel.c k) (impl_parallel.g k) : Cx Int) Try.f123 ((impl_parallel.e k).args.enc (a0, a1, ())) (impl_parallel.e k).ret.dec = impl_parallel.f k a0 a1 := by kernel_rfl
theorem impl_parallel.ok1 (k : Nat) (hC : AllFun Try.prog (impl_parallel.c k)) : Fun Try.prog 123 (impl_parallel.e k).G := fun_ok mixed (body := impl_parallel.bd) Try.func123 (by kernel_rfl) (by kernel_rfl) (by kernel_rfl) hC (loops_all 0 (by kernel_rfl) fun i hi => absurd hi (Nat.not_lt_zero i)) (impl_parallel.e k) (fun a => Nat.le_of_ble_eq_true (by kernel_rfl)) fun a b h => (impl_parallel.link k a.1 a.2.1).trans h
theorem impl_parallel.ok (k : Nat) : Fun Try.prog 123 (impl_parallel.e k).G := impl_parallel.ok1 k ⟨impl_normal.ok k, impl_crossOf.ok k, impl_dot.ok k, impl_sign.ok k, trivial⟩

noncomputable def impl_clash2.H5 : Hd := ⟨[], [2, 3, 5, 6, 16], [2, 3, 5, 6]⟩
@[reducible] def impl_clash2.A5 : Type := ((Unit × Unit × Unit × Unit × Int × Unit) × (S4 × S4 × S3 × S3 × Unit))
noncomputable def impl_clash2.Z5 : SC impl_clash2.A5 := sC impl_clash2.H5 (eCons 2 (tRef 2 0) (eCons 3 (tRef 3 0) (eCons 5 (tRef 5 0) (eCons 6 (tRef 6 0) (eCons 16 (tP (aI .i64)) eNil))))) (bCons 2 (xVr cS4) (bCons 3 (xVr cS4) (bCons 5 (xVr cS3) (bCons 6 (xVr cS3) bNil))))
@[reducible] def impl_clash2.B5 : Type := ((Bool × Unit) × (Unit)) ⊕ ((Unit) × (Unit))
noncomputable def impl_clash2.X5 : XC impl_clash2.B5 := xOr (xRet (sC ⟨[], [4], []⟩ (eCons 4 (tP aB) eNil) bNil)) (xExit 0 (sC ⟨[], [], []⟩ eNil bNil))
noncomputable def impl_clash2.s5 (k : Nat)  (J : Int → S4 → S4 → S3 → S3 → Option impl_clash2.B5) (x16 : Int) (b2 : S4) (b3 : S4) (b5 : S3) (b6 : S3) : Option impl_clash2.B5 :=
  if (decide (x16 < 3)) = true then (if 0 ≤ x16 then (if x16 < 3 then (if ((sel [b5.x, b5.y, b5.z] x16) != 0) = true then (if 0 ≤ x16 then (if x16 < 3 then (if 0 ≤ x16 then (if x16 < 3 then (if 0 ≤ x16 then (if x16 < 3 then (if 0 ≤ x16 then (if x16 < 3 then (some (.inl (((decide ((W ((W (b2.d * (if (W (0 - (sel [b6.x, b6.y, b6.z] x16))) > (sel [b6.x, b6.y, b6.z] x16) then (W (0 - (sel [b6.x, b6.y, b6.z] x16))) else (sel [b6.x, b6.y, b6.z] x16)))) + (W (b3.d * (if (W (0 - (sel [b5.x, b5.y, b5.z] x16))) > (sel [b5.x, b5.y, b5.z] x16) then (W (0 - (sel [b5.x, b5.y, b5.z] x16))) else (sel [b5.x, b5.y, b5.z] x16)))))) ≤ 0)), ()), (())))) else none) else none) else none) else none) else none) else none) else none) else none) else (J (W (x16 + 1)) b2 b3 b5 b6)) else none) else none) else (some (.inr ((()), (()))))
noncomputable def impl_clash2.l5 (k : Nat)  : Nat → Int → S4 → S4 → S3 → S3 → Option impl_clash2.B5
  | 0, _, _, _, _, _ => none
  | n + 1, x16, b2, b3, b5, b6 => impl_clash2.s5 k (impl_clash2.l5 k n) x16 b2 b3 b5 b6
noncomputable def impl_clash2.f (k : Nat) (a0 : S4) (a1 : S4) : Option Bool :=
  (impl_parallel.f k  a0 a1).bind fun t1 => if (decide (t1 ≥ 0)) = true then (some false) else ((impl_normal.f k  a0).bind fun t2 => (impl_normal.f k  a1).bind fun t3 => (impl_clash2.l5 k k 0 a0 a1 t2 t3).bind fun | .inl r4 => (some r4.1.1) | .inr x5 => (some false))
noncomputable def impl_clash2.e (k : Nat) : FE := { α := S4 × S4 × Unit, β := Bool, args := (lCons aS4 (lCons aS4 lNil)), ret := (rOne aB), f := fun p => impl_clash2.f k p.1 p.2.1 }
noncomputable def impl_clash2.c (k : Nat) : List (Nat × CE) := [(123, .fn (impl_parallel.e k)), (124, .fn (impl_normal.e k))]
noncomputable def impl_clash2.bd : Code := match Try.f109.body with | some c => c | none => .skip
noncomputable def impl_clash2.e5 (k : Nat) : LE := { H := impl_clash2.H5, α := impl_clash2.A5, β := impl_clash2.B5, st := impl_clash2.Z5, xt := impl_clash2.X5, f := fun p => impl_clash2.l5 k k p.1.2.2.2.2.1 p.2.1 p.2.2.1 p.2.2.2.1 p.2.2.2.2.1 }
noncomputable def impl_clash2.g (k : Nat) : List (Nat × LE) := [(5, impl_clash2.e5 k)]
theorem impl_clash2.t5 (k : Nat) (I : S2 → Option impl_clash2.B5) (x16 : Int) (b2 : S4) (b3 : S4) (b5 : S3) (b6 : S3) : stepOf (mkCx Try.prog (impl_clash2.c k) (impl_clash2.g k) : Cx impl_clash2.B5) (loopAt impl_clash2.bd 0) impl_clash2.H5 impl_clash2.X5.dec I (impl_clash2.Z5.enc (((), (), (), (), x16, ()), (b2, b3, b5, b6, ()))) = impl_clash2.s5 k (fun x16 b2 b3 b5 b6 => I (impl_clash2.Z5.enc (((), (), (), (), x16, ()), (b2, b3, b5, b6, ())))) x16 b2 b3 b5 b6 := by kernel_rfl
theorem impl_clash2.i5 (k : Nat) : ∀ (n : Nat) (x16 : Int) (b2 : S4) (b3 : S4) (b5 : S3) (b6 : S3), iter (evCode (mkCx Try.prog (impl_clash2.c k) (impl_clash2.g k) : Cx impl_clash2.B5) (loopAt impl_clash2.bd 0)) impl_clash2.H5 impl_clash2.X5.dec n (impl_clash2.Z5.enc (((), (), (), (), x16, ()), (b2, b3, b5, b6, ()))) = impl_clash2.l5 k n x16 b2 b3 b5 b6
  | 0, _, _, _, _, _ => rfl
  | n + 1, x16, b2, b3, b5, b6 => ((iter_step _ _ _ _ n _).trans (impl_clash2.t5 k _ x16 b2 b3 b5 b6)).trans (congrArg (fun J => impl_clash2.s5 k J x16 b2 b3 b5 b6) (funext fun x16 => funext fun b2 => funext fun b3 => funext fun b5 => funext fun b6 => impl_clash2.i5 k n x16 b2 b3 b5 b6))
theorem impl_clash2.to5 (k : Nat) (hC : AllFun Try.prog (impl_clash2.c k)) : LoopTo Try.prog 48 (impl_clash2.e5 k) (loopAt impl_clash2.bd 0) := loop_to mixed hC (by kernel_rfl) (loops_all 0 (by kernel_rfl) fun i hi => absurd hi (Nat.not_lt_zero i)) fun a b h => ⟨k, (impl_clash2.i5 k k a.1.2.2.2.2.1 a.2.1 a.2.2.1 a.2.2.2.1 a.2.2.2.2.1).trans h⟩
theorem impl_clash2.link (k : Nat) (a0 : S4) (a1 : S4) : evFun (mkCx Try.prog (impl_clash2.c k) (impl_clash2.g k) : Cx Bool) Try.f109 ((impl_clash2.e k).args.enc (a0, a1, ())) (impl_clash2.e k).ret.dec = impl_clash2.f k a0 a1 := by kernel_rfl
theorem impl_clash2.ok1 (k : Nat) (hC : AllFun Try.prog (impl_clash2.c k)) : Fun Try.prog 109 (impl_clash2.e k).G := fun_ok mixed (body := impl_clash2.bd) Try.func109 (by kernel_rfl) (by kernel_rfl) (by kernel_rfl) hC (loops_all 1 (by kernel_rfl) fun i hi => by obtain rfl : i = 0 := Nat.lt_one_iff.1 hi; exact ⟨impl_clash2.e5 k, by kernel_rfl, impl_clash2.to5 k hC⟩) (impl_clash2.e k) (fun a => Nat.le_of_ble_eq_true (by kernel_rfl)) fun a b h => (impl_clash2.link k a.1 a.2.1).trans h
theorem impl_clash2.ok (k : Nat) : Fun Try.prog 109 (impl_clash2.e k).G := impl_clash2.ok1 k ⟨impl_parallel.ok k, impl_normal.ok k, trivial⟩

noncomputable def impl_det.f (k : Nat) (a0 : S3) (a1 : S3) (a2 : S3) : Option Int :=
  (impl_crossOf.f k  a1 a2).bind fun t1 => (impl_dot.f k  a0 t1).bind fun t2 => some t2
noncomputable def impl_det.e (k : Nat) : FE := { α := S3 × S3 × S3 × Unit, β := Int, args := (lCons aS3 (lCons aS3 (lCons aS3 lNil))), ret := (rOne (aI .i64)), f := fun p => impl_det.f k p.1 p.2.1 p.2.2.1 }
noncomputable def impl_det.c (k : Nat) : List (Nat × CE) := [(126, .fn (impl_crossOf.e k)), (128, .fn (impl_dot.e k))]
noncomputable def impl_det.bd : Code := match Try.f125.body with | some c => c | none => .skip
noncomputable def impl_det.g (k : Nat) : List (Nat × LE) := []
theorem impl_det.link (k : Nat) (a0 : S3) (a1 : S3) (a2 : S3) : evFun (mkCx Try.prog (impl_det.c k) (impl_det.g k) : Cx Int) Try.f125 ((impl_det.e k).args.enc (a0, a1, a2, ())) (impl_det.e k).ret.dec = impl_det.f k a0 a1 a2 := by kernel_rfl
theorem impl_det.ok1 (k : Nat) (hC : AllFun Try.prog (impl_det.c k)) : Fun Try.prog 125 (impl_det.e k).G := fun_ok mixed (body := impl_det.bd) Try.func125 (by kernel_rfl) (by kernel_rfl) (by kernel_rfl) hC (loops_all 0 (by kernel_rfl) fun i hi => absurd hi (Nat.not_lt_zero i)) (impl_det.e k) (fun a => Nat.le_of_ble_eq_true (by kernel_rfl)) fun a b h => (impl_det.link k a.1 a.2.1 a.2.2.1).trans h
theorem impl_det.ok (k : Nat) : Fun Try.prog 125 (impl_det.e k).G := impl_det.ok1 k ⟨impl_crossOf.ok k, impl_dot.ok k, trivial⟩

noncomputable def impl_weighs.H4 : Hd := ⟨[], [1, 5, 6, 13, 14, 15], []⟩
@[reducible] def impl_weighs.A4 : Type := (((List Int) × Int × Int × (List Int) × Int × Int × Unit) × (Unit))
noncomputable def impl_weighs.Z4 : SC impl_weighs.A4 := sC impl_weighs.H4 (eCons 1 (tP (aSl (.i .i64))) (eCons 5 (tP (aI .i64)) (eCons 6 (tP (aI .i64)) (eCons 13 (tP (aSl (.i .i64))) (eCons 14 (tP (aI .i64)) (eCons 15 (tP (aI .i64)) eNil)))))) bNil
@[reducible] def impl_weighs.B4 : Type := ((Bool × Unit) × (Unit)) ⊕ ((Int × Int × Unit) × (Unit))
noncomputable def impl_weighs.X4 : XC impl_weighs.B4 := xOr (xRet (sC ⟨[], [4], []⟩ (eCons 4 (tP aB) eNil) bNil)) (xExit 0 (sC ⟨[], [5, 6], []⟩ (eCons 5 (tP (aI .i64)) (eCons 6 (tP (aI .i64)) eNil)) bNil))
noncomputable def impl_weighs.s4 (k : Nat)  (J : (List Int) → Int → Int → (List Int) → Int → Int → Option impl_weighs.B4) (x1 : List Int) (x5 : Int) (x6 : Int) (x13 : List Int) (x14 : Int) (x15 : Int) : Option impl_weighs.B4 :=
  if (decide (x15 < x14)) = true then (if 0 ≤ x15 then (if x15 < (x13.length : Int) then (if (x5 == 0) = true then (some (.inl ((false, ()), (())))) else ((impl_sign.f k  (rd x13 x15)).bind fun t2 => if (t2 != x5) = true then (some (.inl ((false, ()), (())))) else (if 0 ≤ x15 then (if x15 < (x1.length : Int) then (J x1 x5 (W (x6 + (W ((rd x13 x15) * (rd x1 x15))))) x13 x14 (W (x15 + 1))) else none) else none))) else none) else none) else (some (.inr ((x5, x6, ()), (()))))
noncomputable def impl_weighs.l4 (k : Nat)  : Nat → (List Int) → Int → Int → (List Int) → Int → Int → Option impl_weighs.B4
  | 0, _, _, _, _, _, _ => none
  | n + 1, x1, x5, x6, x13, x14, x15 => impl_weighs.s4 k (impl_weighs.l4 k n) x1 x5 x6 x13 x14 x15
noncomputable def impl_weighs.f (k : Nat) (a0 : List Int) (a1 : List Int) : Option Bool :=
  if 0 ≤ 0 then (if 0 < (a0.length : Int) then ((impl_sign.f k  (rd a0 0)).bind fun t1 => (impl_weighs.l4 k k a1 t1 0 a0 (a0.length : Int) 0).bind fun | .inl r3 => (some r3.1.1) | .inr x4 => (some (decide ((W (x4.1.2.1 * x4.1.1)) ≤ 0)))) else none) else none
noncomputable def impl_weighs.e (k : Nat) : FE := { α := (List Int) × (List Int) × Unit, β := Bool, args := (lCons (aSl (.i .i64)) (lCons (aSl (.i .i64)) lNil)), ret := (rOne aB), f := fun p => impl_weighs.f k p.1 p.2.1 }
noncomputable def impl_weighs.c (k : Nat) : List (Nat × CE) := [(131, .fn (impl_sign.e k))]
noncomputable def impl_weighs.bd : Code := match Try.f127.body with | some c => c | none => .skip
noncomputable def impl_weighs.e4 (k : Nat) : LE := { H := impl_weighs.H4, α := impl_weighs.A4, β := impl_weighs.B4, st := impl_weighs.Z4, xt := impl_weighs.X4, f := fun p => impl_weighs.l4 k k p.1.1 p.1.2.1 p.1.2.2.1 p.1.2.2.2.1 p.1.2.2.2.2.1 p.1.2.2.2.2.2.1 }
noncomputable def impl_weighs.g (k : Nat) : List (Nat × LE) := [(4, impl_weighs.e4 k)]
theorem impl_weighs.t4 (k : Nat) (I : S2 → Option impl_weighs.B4) (x1 : List Int) (x5 : Int) (x6 : Int) (x13 : List Int) (x14 : Int) (x15 : Int) : stepOf (mkCx Try.prog (impl_weighs.c k) (impl_weighs.g k) : Cx impl_weighs.B4) (loopAt impl_weighs.bd 0) impl_weighs.H4 impl_weighs.X4.dec I (impl_weighs.Z4.enc ((x1, x5, x6, x13, x14, x15, ()), (()))) = impl_weighs.s4 k (fun x1 x5 x6 x13 x14 x15 => I (impl_weighs.Z4.enc ((x1, x5, x6, x13, x14, x15, ()), (())))) x1 x5 x6 x13 x14 x15 := by kernel_rfl
theorem impl_weighs.i4 (k : Nat) : ∀ (n : Nat) (x1 : List Int) (x5 : Int) (x6 : Int) (x13 : List Int) (x14 : Int) (x15 : Int), iter (evCode (mkCx Try.prog (impl_weighs.c k) (impl_weighs.g k) : Cx impl_weighs.B4) (loopAt impl_weighs.bd 0)) impl_weighs.H4 impl_weighs.X4.dec n (impl_weighs.Z4.enc ((x1, x5, x6, x13, x14, x15, ()), (()))) = impl_weighs.l4 k n x1 x5 x6 x13 x14 x15
  | 0, _, _, _, _, _, _ => rfl
  | n + 1, x1, x5, x6, x13, x14, x15 => ((iter_step _ _ _ _ n _).trans (impl_weighs.t4 k _ x1 x5 x6 x13 x14 x15)).trans (congrArg (fun J => impl_weighs.s4 k J x1 x5 x6 x13 x14 x15) (funext fun x1 => funext fun x5 => funext fun x6 => funext fun x13 => funext fun x14 => funext fun x15 => impl_weighs.i4 k n x1 x5 x6 x13 x14 x15))
theorem impl_weighs.to4 (k : Nat) (hC : AllFun Try.prog (impl_weighs.c k)) : LoopTo Try.prog 41 (impl_weighs.e4 k) (loopAt impl_weighs.bd 0) := loop_to mixed hC (by kernel_rfl) (loops_all 0 (by kernel_rfl) fun i hi => absurd hi (Nat.not_lt_zero i)) fun a b h => ⟨k, (impl_weighs.i4 k k a.1.1 a.1.2.1 a.1.2.2.1 a.1.2.2.2.1 a.1.2.2.2.2.1 a.1.2.2.2.2.2.1).trans h⟩
theorem impl_weighs.link (k : Nat) (a0 : List Int) (a1 : List Int) : evFun (mkCx Try.prog (impl_weighs.c k) (impl_weighs.g k) : Cx Bool) Try.f127 ((impl_weighs.e k).args.enc (a0, a1, ())) (impl_weighs.e k).ret.dec = impl_weighs.f k a0 a1 := by kernel_rfl
theorem impl_weighs.ok1 (k : Nat) (hC : AllFun Try.prog (impl_weighs.c k)) : Fun Try.prog 127 (impl_weighs.e k).G := fun_ok mixed (body := impl_weighs.bd) Try.func127 (by kernel_rfl) (by kernel_rfl) (by kernel_rfl) hC (loops_all 1 (by kernel_rfl) fun i hi => by obtain rfl : i = 0 := Nat.lt_one_iff.1 hi; exact ⟨impl_weighs.e4 k, by kernel_rfl, impl_weighs.to4 k hC⟩) (impl_weighs.e k) (fun a => Nat.le_of_ble_eq_true (by kernel_rfl)) fun a b h => (impl_weighs.link k a.1 a.2.1).trans h
theorem impl_weighs.ok (k : Nat) : Fun Try.prog 127 (impl_weighs.e k).G := impl_weighs.ok1 k ⟨impl_sign.ok k, trivial⟩

noncomputable def impl_clash3.f (k : Nat) (a0 : S4) (a1 : S4) (a2 : S4) : Option Bool :=
  (impl_normal.f k  a0).bind fun t1 => (impl_normal.f k  a1).bind fun t2 => (impl_normal.f k  a2).bind fun t3 => (impl_det.f k  t1 t2 t3).bind fun t4 => if (t4 != 0) = true then (some false) else ((impl_crossOf.f k  t1 t2).bind fun t5 => (impl_crossOf.f k  t2 t3).bind fun t6 => (impl_dot.f k  t6 t5).bind fun t7 => (impl_crossOf.f k  t3 t1).bind fun t8 => (impl_dot.f k  t8 t5).bind fun t9 => (impl_dot.f k  t5 t5).bind fun t10 => (impl_weighs.f k  ([t7, t9, t10] : List Int) ([a0.d, a1.d, a2.d] : List Int)).bind fun t11 => some t11)
noncomputable def impl_clash3.e (k : Nat) : FE := { α := S4 × S4 × S4 × Unit, β := Bool, args := (lCons aS4 (lCons aS4 (lCons aS4 lNil))), ret := (rOne aB), f := fun p => impl_clash3.f k p.1 p.2.1 p.2.2.1 }
noncomputable def impl_clash3.c (k : Nat) : List (Nat × CE) := [(124, .fn (impl_normal.e k)), (125, .fn (impl_det.e k)), (126, .fn (impl_crossOf.e k)), (128, .fn (impl_dot.e k)), (127, .fn (impl_weighs.e k))]
noncomputable def impl_clash3.bd : Code := match Try.f110.body with | some c => c | none => .skip
noncomputable def impl_clash3.g (k : Nat) : List (Nat × LE) := []
theorem impl_clash3.link (k : Nat) (a0 : S4) (a1 : S4) (a2 : S4) : evFun (mkCx Try.prog (impl_clash3.c k) (impl_clash3.g k) : Cx Bool) Try.f110 ((impl_clash3.e k).args.enc (a0, a1, a2, ())) (impl_clash3.e k).ret.dec = impl_clash3.f k a0 a1 a2 := by kernel_rfl
theorem impl_clash3.ok1 (k : Nat) (hC : AllFun Try.prog (impl_clash3.c k)) : Fun Try.prog 110 (impl_clash3.e k).G := fun_ok mixed (body := impl_clash3.bd) Try.func110 (by kernel_rfl) (by kernel_rfl) (by kernel_rfl) hC (loops_all 0 (by kernel_rfl) fun i hi => absurd hi (Nat.not_lt_zero i)) (impl_clash3.e k) (fun a => Nat.le_of_ble_eq_true (by kernel_rfl)) fun a b h => (impl_clash3.link k a.1 a.2.1 a.2.2.1).trans h
theorem impl_clash3.ok (k : Nat) : Fun Try.prog 110 (impl_clash3.e k).G := impl_clash3.ok1 k ⟨impl_normal.ok k, impl_det.ok k, impl_crossOf.ok k, impl_dot.ok k, impl_weighs.ok k, trivial⟩

noncomputable def impl_det3.f (k : Nat) (a0 : S4) (a1 : S4) (a2 : S4) : Option Int :=
  (impl_normal.f k  a0).bind fun t1 => (impl_normal.f k  a1).bind fun t2 => (impl_normal.f k  a2).bind fun t3 => (impl_det.f k  t1 t2 t3).bind fun t4 => some t4
noncomputable def impl_det3.e (k : Nat) : FE := { α := S4 × S4 × S4 × Unit, β := Int, args := (lCons aS4 (lCons aS4 (lCons aS4 lNil))), ret := (rOne (aI .i64)), f := fun p => impl_det3.f k p.1 p.2.1 p.2.2.1 }
noncomputable def impl_det3.c (k : Nat) : List (Nat × CE) := [(124, .fn (impl_normal.e k)), (125, .fn (impl_det.e k))]
noncomputable def impl_det3.bd : Code := match Try.f129.body with | some c => c | none => .skip
noncomputable def impl_det3.g (k : Nat) : List (Nat × LE) := []
theorem impl_det3.link (k : Nat) (a0 : S4) (a1 : S4) (a2 : S4) : evFun (mkCx Try.prog (impl_det3.c k) (impl_det3.g k) : Cx Int) Try.f129 ((impl_det3.e k).args.enc (a0, a1, a2, ())) (impl_det3.e k).ret.dec = impl_det3.f k a0 a1 a2 := by kernel_rfl
theorem impl_det3.ok1 (k : Nat) (hC : AllFun Try.prog (impl_det3.c k)) : Fun Try.prog 129 (impl_det3.e k).G := fun_ok mixed (body := impl_det3.bd) Try.func129 (by kernel_rfl) (by kernel_rfl) (by kernel_rfl) hC (loops_all 0 (by kernel_rfl) fun i hi => absurd hi (Nat.not_lt_zero i)) (impl_det3.e k) (fun a => Nat.le_of_ble_eq_true (by kernel_rfl)) fun a b h => (impl_det3.link k a.1 a.2.1 a.2.2.1).trans h
theorem impl_det3.ok (k : Nat) : Fun Try.prog 129 (impl_det3.e k).G := impl_det3.ok1 k ⟨impl_normal.ok k, impl_det.ok k, trivial⟩

noncomputable def impl_clash4.f (k : Nat) (a0 : S4) (a1 : S4) (a2 : S4) (a3 : S4) : Option Bool :=
  (impl_det3.f k  a1 a2 a3).bind fun t1 => (impl_det3.f k  a0 a2 a3).bind fun t2 => (impl_det3.f k  a0 a1 a3).bind fun t3 => (impl_det3.f k  a0 a1 a2).bind fun t4 => (impl_weighs.f k  ([t1, (W (0 - t2)), t3, (W (0 - t4))] : List Int) ([a0.d, a1.d, a2.d, a3.d] : List Int)).bind fun t5 => some t5
noncomputable def impl_clash4.e (k : Nat) : FE := { α := S4 × S4 × S4 × S4 × Unit, β := Bool, args := (lCons aS4 (lCons aS4 (lCons aS4 (lCons aS4 lNil)))), ret := (rOne aB), f := fun p => impl_clash4.f k p.1 p.2.1 p.2.2.1 p.2.2.2.1 }
noncomputable def impl_clash4.c (k : Nat) : List (Nat × CE) := [(129, .fn (impl_det3.e k)), (127, .fn (impl_weighs.e k))]
noncomputable def impl_clash4.bd : Code := match Try.f111.body with | some c => c | none => .skip
noncomputable def impl_clash4.g (k : Nat) : List (Nat × LE) := []
theorem impl_clash4.link (k : Nat) (a0 : S4) (a1 : S4) (a2 : S4) (a3 : S4) : evFun (mkCx Try.prog (impl_clash4.c k) (impl_clash4.g k) : Cx Bool) Try.f111 ((impl_clash4.e k).args.enc (a0, a1, a2, a3, ())) (impl_clash4.e k).ret.dec = impl_clash4.f k a0 a1 a2 a3 := by kernel_rfl
theorem impl_clash4.ok1 (k : Nat) (hC : AllFun Try.prog (impl_clash4.c k)) : Fun Try.prog 111 (impl_clash4.e k).G := fun_ok mixed (body := impl_clash4.bd) Try.func111 (by kernel_rfl) (by kernel_rfl) (by kernel_rfl) hC (loops_all 0 (by kernel_rfl) fun i hi => absurd hi (Nat.not_lt_zero i)) (impl_clash4.e k) (fun a => Nat.le_of_ble_eq_true (by kernel_rfl)) fun a b h => (impl_clash4.link k a.1 a.2.1 a.2.2.1 a.2.2.2.1).trans h
theorem impl_clash4.ok (k : Nat) : Fun Try.prog 111 (impl_clash4.e k).G := impl_clash4.ok1 k ⟨impl_det3.ok k, impl_weighs.ok k, trivial⟩

noncomputable def impl_room.H12 : Hd := ⟨[], [0, 3, 6, 8, 11, 12, 13, 23, 24, 25, 36, 37, 38], [3, 6, 8]⟩
@[reducible] def impl_room.A12 : Type := (((List S4) × Unit × Unit × Unit × (List S4) × Int × Int × (List S4) × Int × Int × (List S4) × Int × Int × Unit) × (S4 × S4 × S4 × Unit))
noncomputable def impl_room.Z12 : SC impl_room.A12 := sC impl_room.H12 (eCons 0 (tP (aSl .s4)) (eCons 3 (tRef 3 0) (eCons 6 (tRef 6 0) (eCons 8 (tRef 8 0) (eCons 11 (tP (aSl .s4)) (eCons 12 (tP (aI .i64)) (eCons 13 (tP (aI .i64)) (eCons 23 (tP (aSl .s4)) (eCons 24 (tP (aI .i64)) (eCons 25 (tP (aI .i64)) (eCons 36 (tP (aSl .s4)) (eCons 37 (tP (aI .i64)) (eCons 38 (tP (aI .i64)) eNil))))))))))))) (bCons 3 (xVr cS4) (bCons 6 (xVr cS4) (bCons 8 (xVr cS4) bNil)))
@[reducible] def impl_room.B12 : Type := ((Bool × Unit) × (Unit)) ⊕ (((List S4) × Unit × Unit × (List S4) × Int × Int × (List S4) × Int × Int × Unit) × (S4 × S4 × Unit))
noncomputable def impl_room.X12 : XC impl_room.B12 := xOr (xRet (sC ⟨[], [4], []⟩ (eCons 4 (tP aB) eNil) bNil)) (xExit 4 (sC ⟨[], [0, 3, 6, 11, 12, 13, 23, 24, 25], [3, 6]⟩ (eCons 0 (tP (aSl .s4)) (eCons 3 (tRef 3 0) (eCons 6 (tRef 6 0) (eCons 11 (tP (aSl .s4)) (eCons 12 (tP (aI .i64)) (eCons 13 (tP (aI .i64)) (eCons 23 (tP (aSl .s4)) (eCons 24 (tP (aI .i64)) (eCons 25 (tP (aI .i64)) eNil))))))))) (bCons 3 (xVr cS4) (bCons 6 (xVr cS4) bNil))))
noncomputable def impl_room.s12 (k : Nat)  (J : (List S4) → (List S4) → Int → Int → (List S4) → Int → Int → (List S4) → Int → Int → S4 → S4 → S4 → Option impl_room.B12) (x0 : List S4) (x11 : List S4) (x12 : Int) (x13 : Int) (x23 : List S4) (x24 : Int) (x25 : Int) (x36 : List S4) (x37 : Int) (x38 : Int) (b3 : S4) (b6 : S4) (b8 : S4) : Option impl_room.B12 :=
  if (decide (x38 < x37)) = true then (if 0 ≤ x38 then (if x38 < (x36.length : Int) then ((impl_clash4.f k  (rd x36 x38) b8 b6 b3).bind fun t3 => if t3 = true then (some (.inl ((false, ()), (())))) else (J x0 x11 x12 x13 x23 x24 x25 x36 x37 (W (x38 + 1)) b3 b6 b8)) else none) else none) else (some (.inr ((x0, (), (), x11, x12, x13, x23, x24, x25, ()), (b3, b6, ()))))
noncomputable def impl_room.l12 (k : Nat)  : Nat → (List S4) → (List S4) → Int → Int → (List S4) → Int → Int → (List S4) → Int → Int → S4 → S4 → S4 → Option impl_room.B12
  | 0, _, _, _, _, _, _, _, _, _, _, _, _, _ => none
  | n + 1, x0, x11, x12, x13, x23, x24, x25, x36, x37, x38, b3, b6, b8 => impl_room.s12 k (impl_room.l12 k n) x0 x11 x12 x13 x23 x24 x25 x36 x37 x38 b3 b6 b8
noncomputable def impl_room.H7 : Hd := ⟨[], [0, 3, 6, 11, 12, 13, 23, 24, 25], [3, 6]⟩
@[reducible] def impl_room.A7 : Type := (((List S4) × Unit × Unit × (List S4) × Int × Int × (List S4) × Int × Int × Unit) × (S4 × S4 × Unit))
noncomputable def impl_room.Z7 : SC impl_room.A7 := sC impl_room.H7 (eCons 0 (tP (aSl .s4)) (eCons 3 (tRef 3 0) (eCons 6 (tRef 6 0) (eCons 11 (tP (aSl .s4)) (eCons 12 (tP (aI .i64)) (eCons 13 (tP (aI .i64)) (eCons 23 (tP (aSl .s4)) (eCons 24 (tP (aI .i64)) (eCons 25 (tP (aI .i64)) eNil))))))))) (bCons 3 (xVr cS4) (bCons 6 (xVr cS4) bNil))
@[reducible] def impl_room.B7 : Type := ((Bool × Unit) × (Unit)) ⊕ (((List S4) × Unit × (List S4) × Int × Int × Unit) × (S4 × Unit))
noncomputable def impl_room.X7 : XC impl_room.B7 := xOr (xRet (sC ⟨[], [4], []⟩ (eCons 4 (tP aB) eNil) bNil)) (xExit 2 (sC ⟨[], [0, 3, 11, 12, 13], [3]⟩ (eCons 0 (tP (aSl .s4)) (eCons 3 (tRef 3 0) (eCons 11 (tP (aSl .s4)) (eCons 12 (tP (aI .i64)) (eCons 13 (tP (aI .i64)) eNil))))) (bCons 3 (xVr cS4) bNil)))
noncomputable def impl_room.s7 (k : Nat)  (J : (List S4) → (List S4) → Int → Int → (List S4) → Int → Int → S4 → S4 → Option impl_room.B7) (x0 : List S4) (x11 : List S4) (x12 : Int) (x13 : Int) (x23 : List S4) (x24 : Int) (x25 : Int) (b3 : S4) (b6 : S4) : Option impl_room.B7 :=
  if (decide (x25 < x24)) = true then (if 0 ≤ x25 then (if x25 < (x23.length : Int) then ((impl_clash3.f k  (rd x23 x25) b6 b3).bind fun t2 => if t2 = true then (some (.inl ((false, ()), (())))) else (if 0 ≤ x25 then (if x25 ≤ (x0.length : Int) then ((impl_room.l12 k k x0 x11 x12 x13 x23 x24 x25 (x0.take x25.toNat) ((x0.take x25.toNat).length : Int) 0 b3 b6 (rd x23 x25)).bind fun | .inl r4 => (some (.inl ((r4.1.1, ()), (())))) | .inr x5 => (J x5.1.1 x5.1.2.2.2.1 x5.1.2.2.2.2.1 x5.1.2.2.2.2.2.1 x5.1.2.2.2.2.2.2.1 x5.1.2.2.2.2.2.2.2.1 (W (x5.1.2.2.2.2.2.2.2.2.1 + 1)) x5.2.1 x5.2.2.1)) else none) else none)) else none) else none) else (some (.inr ((x0, (), x11, x12, x13, ()), (b3, ()))))
noncomputable def impl_room.l7 (k : Nat)  : Nat → (List S4) → (List S4) → Int → Int → (List S4) → Int → Int → S4 → S4 → Option impl_room.B7
  | 0, _, _, _, _, _, _, _, _, _ => none
  | n + 1, x0, x11, x12, x13, x23, x24, x25, b3, b6 => impl_room.s7 k (impl_room.l7 k n) x0 x11 x12 x13 x23 x24 x25 b3 b6
noncomputable def impl_room.H2 : Hd := ⟨[], [0, 3, 11, 12, 13], [3]⟩
@[reducible] def impl_room.A2 : Type := (((List S4) × Unit × (List S4) × Int × Int × Unit) × (S4 × Unit))
noncomputable def impl_room.Z2 : SC impl_room.A2 := sC impl_room.H2 (eCons 0 (tP (aSl .s4)) (eCons 3 (tRef 3 0) (eCons 11 (tP (aSl .s4)) (eCons 12 (tP (aI .i64)) (eCons 13 (tP (aI .i64)) eNil))))) (bCons 3 (xVr cS4) bNil)
@[reducible] def impl_room.B2 : Type := ((Bool × Unit) × (Unit)) ⊕ ((Unit) × (Unit))
noncomputable def impl_room.X2 : XC impl_room.B2 := xOr (xRet (sC ⟨[], [4], []⟩ (eCons 4 (tP aB) eNil) bNil)) (xExit 0 (sC ⟨[], [], []⟩ eNil bNil))
noncomputable def impl_room.s2 (k : Nat)  (J : (List S4) → (List S4) → Int → Int → S4 → Option impl_room.B2) (x0 : List S4) (x11 : List S4) (x12 : Int) (x13 : Int) (b3 : S4) : Option impl_room.B2 :=
  if (decide (x13 < x12)) = true then (if 0 ≤ x13 then (if x13 < (x11.length : Int) then ((impl_clash2.f k  (rd x11 x13) b3).bind fun t1 => if t1 = true then (some (.inl ((false, ()), (())))) else (if 0 ≤ x13 then (if x13 ≤ (x0.length : Int) then ((impl_room.l7 k k x0 x11 x12 x13 (x0.take x13.toNat) ((x0.take x13.toNat).length : Int) 0 b3 (rd x11 x13)).bind fun | .inl r6 => (some (.inl ((r6.1.1, ()), (())))) | .inr x7 => (J x7.1.1 x7.1.2.2.1 x7.1.2.2.2.1 (W (x7.1.2.2.2.2.1 + 1)) x7.2.1)) else none) else none)) else none) else none) else (some (.inr ((()), (()))))
noncomputable def impl_room.l2 (k : Nat)  : Nat → (List S4) → (List S4) → Int → Int → S4 → Option impl_room.B2
  | 0, _, _, _, _, _ => none
  | n + 1, x0, x11, x12, x13, b3 => impl_room.s2 k (impl_room.l2 k n) x0 x11 x12 x13 b3
noncomputable def impl_room.f (k : Nat) (a0 : List S4) (a1 : S4) : Option Bool :=
  (impl_room.l2 k k a0 a0 (a0.length : Int) 0 a1).bind fun | .inl r8 => (some r8.1.1) | .inr x9 => (some true)
noncomputable def impl_room.e (k : Nat) : FE := { α := (List S4) × S4 × Unit, β := Bool, args := (lCons (aSl .s4) (lCons aS4 lNil)), ret := (rOne aB), f := fun p => impl_room.f k p.1 p.2.1 }
noncomputable def impl_room.c (k : Nat) : List (Nat × CE) := [(109, .fn (impl_clash2.e k)), (110, .fn (impl_clash3.e k)), (111, .fn (impl_clash4.e k))]
noncomputable def impl_room.bd : Code := match Try.f108.body with | some c => c | none => .skip
noncomputable def impl_room.e12 (k : Nat) : LE := { H := impl_room.H12, α := impl_room.A12, β := impl_room.B12, st := impl_room.Z12, xt := impl_room.X12, f := fun p => impl_room.l12 k k p.1.1 p.1.2.2.2.2.1 p.1.2.2.2.2.2.1 p.1.2.2.2.2.2.2.1 p.1.2.2.2.2.2.2.2.1 p.1.2.2.2.2.2.2.2.2.1 p.1.2.2.2.2.2.2.2.2.2.1 p.1.2.2.2.2.2.2.2.2.2.2.1 p.1.2.2.2.2.2.2.2.2.2.2.2.1 p.1.2.2.2.2.2.2.2.2.2.2.2.2.1 p.2.1 p.2.2.1 p.2.2.2.1 }
noncomputable def impl_room.e7 (k : Nat) : LE := { H := impl_room.H7, α := impl_room.A7, β := impl_room.B7, st := impl_room.Z7, xt := impl_room.X7, f := fun p => impl_room.l7 k k p.1.1 p.1.2.2.2.1 p.1.2.2.2.2.1 p.1.2.2.2.2.2.1 p.1.2.2.2.2.2.2.1 p.1.2.2.2.2.2.2.2.1 p.1.2.2.2.2.2.2.2.2.1 p.2.1 p.2.2.1 }
noncomputable def impl_room.e2 (k : Nat) : LE := { H := impl_room.H2, α := impl_room.A2, β := impl_room.B2, st := impl_room.Z2, xt := impl_room.X2, f := fun p => impl_room.l2 k k p.1.1 p.1.2.2.1 p.1.2.2.2.1 p.1.2.2.2.2.1 p.2.1 }
noncomputable def impl_room.g (k : Nat) : List (Nat × LE) := [(12, impl_room.e12 k), (7, impl_room.e7 k), (2, impl_room.e2 k)]
theorem impl_room.t12 (k : Nat) (I : S2 → Option impl_room.B12) (x0 : List S4) (x11 : List S4) (x12 : Int) (x13 : Int) (x23 : List S4) (x24 : Int) (x25 : Int) (x36 : List S4) (x37 : Int) (x38 : Int) (b3 : S4) (b6 : S4) (b8 : S4) : stepOf (mkCx Try.prog (impl_room.c k) (impl_room.g k) : Cx impl_room.B12) (loopAt (loopAt (loopAt impl_room.bd 0) 0) 0) impl_room.H12 impl_room.X12.dec I (impl_room.Z12.enc ((x0, (), (), (), x11, x12, x13, x23, x24, x25, x36, x37, x38, ()), (b3, b6, b8, ()))) = impl_room.s12 k (fun x0 x11 x12 x13 x23 x24 x25 x36 x37 x38 b3 b6 b8 => I (impl_room.Z12.enc ((x0, (), (), (), x11, x12, x13, x23, x24, x25, x36, x37, x38, ()), (b3, b6, b8, ())))) x0 x11 x12 x13 x23 x24 x25 x36 x37 x38 b3 b6 b8 := by kernel_rfl
theorem impl_room.i12 (k : Nat) : ∀ (n : Nat) (x0 : List S4) (x11 : List S4) (x12 : Int) (x13 : Int) (x23 : List S4) (x24 : Int) (x25 : Int) (x36 : List S4) (x37 : Int) (x38 : Int) (b3 : S4) (b6 : S4) (b8 : S4), iter (evCode (mkCx Try.prog (impl_room.c k) (impl_room.g k) : Cx impl_room.B12) (loopAt (loopAt (loopAt impl_room.bd 0) 0) 0)) impl_room.H12 impl_room.X12.dec n (impl_room.Z12.enc ((x0, (), (), (), x11, x12, x13, x23, x24, x25, x36, x37, x38, ()), (b3, b6, b8, ()))) = impl_room.l12 k n x0 x11 x12 x13 x23 x24 x25 x36 x37 x38 b3 b6 b8
  | 0, _, _, _, _, _, _, _, _, _, _, _, _, _ => rfl
  | n + 1, x0, x11, x12, x13, x23, x24, x25, x36, x37, x38, b3, b6, b8 => ((iter_step _ _ _ _ n _).trans (impl_room.t12 k _ x0 x11 x12 x13 x23 x24 x25 x36 x37 x38 b3 b6 b8)).trans (congrArg (fun J => impl_room.s12 k J x0 x11 x12 x13 x23 x24 x25 x36 x37 x38 b3 b6 b8) (funext fun x0 => funext fun x11 => funext fun x12 => funext fun x13 => funext fun x23 => funext fun x24 => funext fun x25 => funext fun x36 => funext fun x37 => funext fun x38 => funext fun b3 => funext fun b6 => funext fun b8 => impl_room.i12 k n x0 x11 x12 x13 x23 x24 x25 x36 x37 x38 b3 b6 b8))
theorem impl_room.t7 (k : Nat) (I : S2 → Option impl_room.B7) (x0 : List S4) (x11 : List S4) (x12 : Int) (x13 : Int) (x23 : List S4) (x24 : Int) (x25 : Int) (b3 : S4) (b6 : S4) : stepOf (mkCx Try.prog (impl_room.c k) (impl_room.g k) : Cx impl_room.B7) (loopAt (loopAt impl_room.bd 0) 0) impl_room.H7 impl_room.X7.dec I (impl_room.Z7.enc ((x0, (), (), x11, x12, x13, x23, x24, x25, ()), (b3, b6, ()))) = impl_room.s7 k (fun x0 x11 x12 x13 x23 x24 x25 b3 b6 => I (impl_room.Z7.enc ((x0, (), (), x11, x12, x13, x23, x24, x25, ()), (b3, b6, ())))) x0 x11 x12 x13 x23 x24 x25 b3 b6 := by kernel_rfl
theorem impl_room.i7 (k : Nat) : ∀ (n : Nat) (x0 : List S4) (x11 : List S4) (x12 : Int) (x13 : Int) (x23 : List S4) (x24 : Int) (x25 : Int) (b3 : S4) (b6 : S4), iter (evCode (mkCx Try.prog (impl_room.c k) (impl_room.g k) : Cx impl_room.B7) (loopAt (loopAt impl_room.bd 0) 0)) impl_room.H7 impl_room.X7.dec n (impl_room.Z7.enc ((x0, (), (), x11, x12, x13, x23, x24, x25, ()), (b3, b6, ()))) = impl_room.l7 k n x0 x11 x12 x13 x23 x24 x25 b3 b6
  | 0, _, _, _, _, _, _, _, _, _ => rfl
  | n + 1, x0, x11, x12, x13, x23, x24, x25, b3, b6 => ((iter_step _ _ _ _ n _).trans (impl_room.t7 k _ x0 x11 x12 x13 x23 x24 x25 b3 b6)).trans (congrArg (fun J => impl_room.s7 k J x0 x11 x12 x13 x23 x24 x25 b3 b6) (funext fun x0 => funext fun x11 => funext fun x12 => funext fun x13 => funext fun x23 => funext fun x24 => funext fun x25 => funext fun b3 => funext fun b6 => impl_room.i7 k n x0 x11 x12 x13 x23 x24 x25 b3 b6))
theorem impl_room.t2 (k : Nat) (I : S2 → Option impl_room.B2) (x0 : List S4) (x11 : List S4) (x12 : Int) (x13 : Int) (b3 : S4) : stepOf (mkCx Try.prog (impl_room.c k) (impl_room.g k) : Cx impl_room.B2) (loopAt impl_room.bd 0) impl_room.H2 impl_room.X2.dec I (impl_room.Z2.enc ((x0, (), x11, x12, x13, ()), (b3, ()))) = impl_room.s2 k (fun x0 x11 x12 x13 b3 => I (impl_room.Z2.enc ((x0, (), x11, x12, x13, ()), (b3, ())))) x0 x11 x12 x13 b3 := by kernel_rfl
theorem impl_room.i2 (k : Nat) : ∀ (n : Nat) (x0 : List S4) (x11 : List S4) (x12 : Int) (x13 : Int) (b3 : S4), iter (evCode (mkCx Try.prog (impl_room.c k) (impl_room.g k) : Cx impl_room.B2) (loopAt impl_room.bd 0)) impl_room.H2 impl_room.X2.dec n (impl_room.Z2.enc ((x0, (), x11, x12, x13, ()), (b3, ()))) = impl_room.l2 k n x0 x11 x12 x13 b3
  | 0, _, _, _, _, _ => rfl
  | n + 1, x0, x11, x12, x13, b3 => ((iter_step _ _ _ _ n _).trans (impl_room.t2 k _ x0 x11 x12 x13 b3)).trans (congrArg (fun J => impl_room.s2 k J x0 x11 x12 x13 b3) (funext fun x0 => funext fun x11 => funext fun x12 => funext fun x13 => funext fun b3 => impl_room.i2 k n x0 x11 x12 x13 b3))
theorem impl_room.to12 (k : Nat) (hC : AllFun Try.prog (impl_room.c k)) : LoopTo Try.prog 50 (impl_room.e12 k) (loopAt (loopAt (loopAt impl_room.bd 0) 0) 0) := loop_to mixed hC (by kernel_rfl) (loops_all 0 (by kernel_rfl) fun i hi => absurd hi (Nat.not_lt_zero i)) fun a b h => ⟨k, (impl_room.i12 k k a.1.1 a.1.2.2.2.2.1 a.1.2.2.2.2.2.1 a.1.2.2.2.2.2.2.1 a.1.2.2.2.2.2.2.2.1 a.1.2.2.2.2.2.2.2.2.1 a.1.2.2.2.2.2.2.2.2.2.1 a.1.2.2.2.2.2.2.2.2.2.2.1 a.1.2.2.2.2.2.2.2.2.2.2.2.1 a.1.2.2.2.2.2.2.2.2.2.2.2.2.1 a.2.1 a.2.2.1 a.2.2.2.1).trans h⟩
theorem impl_room.to7 (k : Nat) (hC : AllFun Try.prog (impl_room.c k)) : LoopTo Try.prog 50 (impl_room.e7 k) (loopAt (loopAt impl_room.bd 0) 0) := loop_to mixed hC (by kernel_rfl) (loops_all 1 (by kernel_rfl) fun i hi => by obtain rfl : i = 0 := Nat.lt_one_iff.1 hi; exact ⟨impl_room.e12 k, by kernel_rfl, impl_room.to12 k hC⟩) fun a b h => ⟨k, (impl_room.i7 k k a.1.1 a.1.2.2.2.1 a.1.2.2.2.2.1 a.1.2.2.2.2.2.1 a.1.2.2.2.2.2.2.1 a.1.2.2.2.2.2.2.2.1 a.1.2.2.2.2.2.2.2.2.1 a.2.1 a.2.2.1).trans h⟩
theorem impl_room.to2 (k : Nat) (hC : AllFun Try.prog (impl_room.c k)) : LoopTo Try.prog 50 (impl_room.e2 k) (loopAt impl_room.bd 0) := loop_to mixed hC (by kernel_rfl) (loops_all 1 (by kernel_rfl) fun i hi => by obtain rfl : i = 0 := Nat.lt_one_iff.1 hi; exact ⟨impl_room.e7 k, by kernel_rfl, impl_room.to7 k hC⟩) fun a b h => ⟨k, (impl_room.i2 k k a.1.1 a.1.2.2.1 a.1.2.2.2.1 a.1.2.2.2.2.1 a.2.1).trans h⟩
theorem impl_room.link (k : Nat) (a0 : List S4) (a1 : S4) : evFun (mkCx Try.prog (impl_room.c k) (impl_room.g k) : Cx Bool) Try.f108 ((impl_room.e k).args.enc (a0, a1, ())) (impl_room.e k).ret.dec = impl_room.f k a0 a1 := by kernel_rfl
theorem impl_room.ok1 (k : Nat) (hC : AllFun Try.prog (impl_room.c k)) : Fun Try.prog 108 (impl_room.e k).G := fun_ok mixed (body := impl_room.bd) Try.func108 (by kernel_rfl) (by kernel_rfl) (by kernel_rfl) hC (loops_all 1 (by kernel_rfl) fun i hi => by obtain rfl : i = 0 := Nat.lt_one_iff.1 hi; exact ⟨impl_room.e2 k, by kernel_rfl, impl_room.to2 k hC⟩) (impl_room.e k) (fun a => Nat.le_of_ble_eq_true (by kernel_rfl)) fun a b h => (impl_room.link k a.1 a.2.1).trans h
theorem impl_room.ok (k : Nat) : Fun Try.prog 108 (impl_room.e k).G := impl_room.ok1 k ⟨impl_clash2.ok k, impl_clash3.ok k, impl_clash4.ok k, trivial⟩

noncomputable def impl_checker_right.fs (k : Nat) (self72 : Int → Tree → (List S4) → Option (Bool × Int)) (a0 : Int) (a1 : Tree) (a2 : List S4) : Option (Bool × Int) :=
  (impl_Solid_isLeaf.f k  (T1 a1)).bind fun t1 => if t1 = true then (some (((a1.p.a == 0) && ((a1.p.b == 0) && ((a1.p.c == 0) && (a1.p.d == 0)))), a0)) else (if a1.inn = true then (some (false, (W (a0 + 1)))) else (if ((a1.kids.length : Int) != 2) = true then (some (false, (W (a0 + 1)))) else (if (decide ((W (a0 + 1)) > 300)) = true then (some (false, (W (a0 + 1)))) else (if (decide ((a2.length : Int) ≥ 24)) = true then (some (false, (W (a0 + 1)))) else ((impl_PlaneOk.f k  a1.p).bind fun t2 => if (!t2) = true then (some (false, (W (a0 + 1)))) else ((impl_flip.f k  a1.p).bind fun t3 => (impl_room.f k  a2 a1.p).bind fun t4 => if (!t4) = true then (some (false, (W (a0 + 1)))) else ((impl_room.f k  a2 t3).bind fun t5 => if (!t5) = true then (some (false, (W (a0 + 1)))) else (if 0 ≤ 0 then (if 0 < (a1.kids.length : Int) then ((impl_with.f k  a2 a1.p).bind fun t6 => (self72  (W (a0 + 1)) (T1 (rd a1.kids 0)) t6).bind fun t7 => if t7.1 = true then (if 0 ≤ 1 then (if 1 < (a1.kids.length : Int) then ((impl_with.f k  a2 t3).bind fun t8 => (self72  t7.2 (T1 (rd a1.kids 1)) t8).bind fun t9 => some (t9.1, t9.2)) else none) else none) else (some (false, t7.2))) else none) else none))))))))
noncomputable def impl_checker_right.f : Nat → Int → Tree → (List S4) → Option (Bool × Int)
  | 0, _, _, _ => none
  | k + 1, a0, a1, a2 => impl_checker_right.fs k (impl_checker_right.f k) a0 a1 a2
theorem impl_checker_right.fS (k : Nat) (a0 : Int) (a1 : Tree) (a2 : List S4) : impl_checker_right.f (k + 1) a0 a1 a2 = impl_checker_right.fs k (impl_checker_right.f k) a0 a1 a2 := by first | rfl | rw [impl_checker_right.f]
noncomputable def impl_checker_right.e (k : Nat) : FS := { σ := Int, α := Tree × (List S4) × Unit, β := Bool, sk := .var, st := (xVr (cOne (aI .i64))), args := (lCons aTree (lCons (aSl .s4) lNil)), ret := (pOne pB), f := fun s p => impl_checker_right.f k s p.1 p.2.1 }
noncomputable def impl_checker_right.c (k : Nat) : List (Nat × CE) := [(106, .fn (impl_Solid_isLeaf.e k)), (60, .fn (impl_PlaneOk.e k)), (107, .fn (impl_flip.e k)), (108, .fn (impl_room.e k)), (95, .fn (impl_with.e k)), (72, .st (impl_checker_right.e k))]
noncomputable def impl_checker_right.bd : Code := match Try.f72.body with | some c => c | none => .skip
noncomputable def impl_checker_right.g (k : Nat) : List (Nat × LE) := []
theorem impl_checker_right.link (k : Nat) (a0 : Int) (a1 : Tree) (a2 : List S4) : evFunS (mkCx Try.prog (impl_checker_right.c k) (impl_checker_right.g k) : Cx (Bool × Int)) Try.f72 (impl_checker_right.e (k + 1)).sk ((impl_checker_right.e (k + 1)).st.enc a0) ((impl_checker_right.e (k + 1)).args.enc (a1, a2, ())) (impl_checker_right.e (k + 1)).fin = impl_checker_right.fs k (impl_checker_right.f k) a0 a1 a2 := by kernel_rfl
theorem impl_checker_right.ok1 (k : Nat) (hC : AllFun Try.prog (impl_checker_right.c k)) : FunS Try.prog 72 (impl_checker_right.e (k + 1)).sk (impl_checker_right.e (k + 1)).H := fun_okS mixed (body := impl_checker_right.bd) Try.func72 (by kernel_rfl) (by kernel_rfl) (by kernel_rfl) hC (loops_all 0 (by kernel_rfl) fun i hi => absurd hi (Nat.not_lt_zero i)) (impl_checker_right.e (k + 1)) (fun a => Nat.le_of_ble_eq_true (by kernel_rfl)) (Nat.le_of_ble_eq_true (by kernel_rfl)) fun s a b h => (impl_checker_right.link k s a.1 a.2.1).trans ((impl_checker_right.fS k s a.1 a.2.1).symm.trans h)
theorem impl_checker_right.ok : ∀ k, FunS Try.prog 72 (impl_checker_right.e k).sk (impl_checker_right.e k).H
  | 0 => funS_zero (by kernel_rfl) fun _ _ => rfl
  | k + 1 => impl_checker_right.ok1 k ⟨impl_Solid_isLeaf.ok k, impl_PlaneOk.ok k, impl_flip.ok k, impl_room.ok k, impl_with.ok k, impl_checker_right.ok k, trivial⟩

noncomputable def impl_SolidOk.f (k : Nat) (a0 : Tree) : Option Bool :=
  (impl_checker_right.f k  0 (T1 a0) ([] : List S4)).bind fun t1 => some t1.1
noncomputable def impl_SolidOk.e (k : Nat) : FE := { α := Tree × Unit, β := Bool, args := (lCons aTree lNil), ret := (rOne aB), f := fun p => impl_SolidOk.f k p.1 }
noncomputable def impl_SolidOk.c (k : Nat) : List (Nat × CE) := [(72, .st (impl_checker_right.e k))]
noncomputable def impl_SolidOk.bd : Code := match Try.f26.body with | some c => c | none => .skip
noncomputable def impl_SolidOk.g (k : Nat) : List (Nat × LE) := []
theorem impl_SolidOk.link (k : Nat) (a0 : Tree) : evFun (mkCx Try.prog (impl_SolidOk.c k) (impl_SolidOk.g k) : Cx Bool) Try.f26 ((impl_SolidOk.e k).args.enc (a0, ())) (impl_SolidOk.e k).ret.dec = impl_SolidOk.f k a0 := by kernel_rfl
theorem impl_SolidOk.ok1 (k : Nat) (hC : AllFun Try.prog (impl_SolidOk.c k)) : Fun Try.prog 26 (impl_SolidOk.e k).G := fun_ok mixed (body := impl_SolidOk.bd) Try.func26 (by kernel_rfl) (by kernel_rfl) (by kernel_rfl) hC (loops_all 0 (by kernel_rfl) fun i hi => absurd hi (Nat.not_lt_zero i)) (impl_SolidOk.e k) (fun a => Nat.le_of_ble_eq_true (by kernel_rfl)) fun a b h => (impl_SolidOk.link k a.1).trans h
theorem impl_SolidOk.ok (k : Nat) : Fun Try.prog 26 (impl_SolidOk.e k).G := impl_SolidOk.ok1 k ⟨impl_checker_right.ok k, trivial⟩

noncomputable def laws_FnExactSolidOk.f (k : Nat) (a0 : Tree) : Option Bool :=
  (laws_szSolid.f k  (T1 a0) 1048576).bind fun t1 => if (decide (t1 < 0)) = true then (some true) else ((laws_toSolid.f k  (T1 a0)).bind fun t2 => (spec_SolidOk.f k  (T1 t2)).bind fun t3 => (laws_toSolid.f k  (T1 a0)).bind fun t4 => (impl_SolidOk.f k  (T1 t4)).bind fun t5 => if (!(t5 == t3)) = true then (some false) else ((laws_toSolid.f k  (T1 a0)).bind fun t6 => (laws_eqSolid.f k  (T1 t4) (T1 t6)).bind fun t7 => if (!t7) = true then (some false) else (some true)))
noncomputable def laws_FnExactSolidOk.e (k : Nat) : FE := { α := Tree × Unit, β := Bool, args := (lCons aTree lNil), ret := (rOne aB), f := fun p => laws_FnExactSolidOk.f k p.1 }
noncomputable def laws_FnExactSolidOk.c (k : Nat) : List (Nat × CE) := [(21, .fn (laws_szSolid.e k)), (23, .fn (laws_toSolid.e k)), (25, .fn (spec_SolidOk.e k)), (26, .fn (impl_SolidOk.e k)), (18, .fn (laws_eqSolid.e k))]
noncomputable def laws_FnExactSolidOk.bd : Code := match Try.f5.body with | some c => c | none => .skip
noncomputable def laws_FnExactSolidOk.g (k : Nat) : List (Nat × LE) := []
theorem laws_FnExactSolidOk.link (k : Nat) (a0 : Tree) : evFun (mkCx Try.prog (laws_FnExactSolidOk.c k) (laws_FnExactSolidOk.g k) : Cx Bool) Try.f5 ((laws_FnExactSolidOk.e k).args.enc (a0, ())) (laws_FnExactSolidOk.e k).ret.dec = laws_FnExactSolidOk.f k a0 := by kernel_rfl
theorem laws_FnExactSolidOk.ok1 (k : Nat) (hC : AllFun Try.prog (laws_FnExactSolidOk.c k)) : Fun Try.prog 5 (laws_FnExactSolidOk.e k).G := fun_ok mixed (body := laws_FnExactSolidOk.bd) Try.func5 (by kernel_rfl) (by kernel_rfl) (by kernel_rfl) hC (loops_all 0 (by kernel_rfl) fun i hi => absurd hi (Nat.not_lt_zero i)) (laws_FnExactSolidOk.e k) (fun a => Nat.le_of_ble_eq_true (by kernel_rfl)) fun a b h => (laws_FnExactSolidOk.link k a.1).trans h
theorem laws_FnExactSolidOk.ok (k : Nat) : Fun Try.prog 5 (laws_FnExactSolidOk.e k).G := laws_FnExactSolidOk.ok1 k ⟨laws_szSolid.ok k, laws_toSolid.ok k, spec_SolidOk.ok k, impl_SolidOk.ok k, laws_eqSolid.ok k, trivial⟩

end Go.Proofs.Ytfgaeenlnkioaaa.G
