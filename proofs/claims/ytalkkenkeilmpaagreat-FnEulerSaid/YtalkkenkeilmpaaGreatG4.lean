/- Go functions told as plain Lean functions; that the code does what these tell. Printed by a program of the session (evp.py). -/
import Derived.Test.YtalkkenkeilmpaaGreatEv16
import Derived.Test.YtalkkenkeilmpaaGreatG3
namespace Go.Proofs.YtalkkenkeilmpaaGreat.G
open Go Go.RowKit Go.Proofs Go.Proofs.YtalkkenkeilmpaaGreat.Ev
set_option linter.unusedVariables false
set_option maxRecDepth 100000

noncomputable def impl_clash2.H5 : Hd := ⟨[], [2, 3, 5, 6, 16], [2, 3, 5, 6], [], []⟩
@[reducible] def impl_clash2.A5 : Type := ((Unit × Unit × Unit × Unit × Int × Unit) × (S4 × S4 × S3 × S3 × Unit))
noncomputable def impl_clash2.Z5 : SC impl_clash2.A5 := sC impl_clash2.H5 (eCons 2 (tRef 2 0) (eCons 3 (tRef 3 0) (eCons 5 (tRef 5 0) (eCons 6 (tRef 6 0) (eCons 16 (tP (aI .i64)) eNil))))) (bCons 2 (xVr cS4) (bCons 3 (xVr cS4) (bCons 5 (xVr cS3) (bCons 6 (xVr cS3) bNil))))
@[reducible] def impl_clash2.B5 : Type := ((Bool × Unit) × (Unit)) ⊕ ((Unit) × (Unit))
noncomputable def impl_clash2.X5 : XC impl_clash2.B5 := xOr (xRet (sC ⟨[], [4], [], [], []⟩ (eCons 4 (tP aB) eNil) bNil)) (xExit 0 (sC ⟨[], [], [], [], []⟩ eNil bNil))
noncomputable def impl_clash2.s5 (k : Nat)  (J : Int → S4 → S4 → S3 → S3 → Option impl_clash2.B5) (x16 : Int) (b2 : S4) (b3 : S4) (b5 : S3) (b6 : S3) : Option impl_clash2.B5 :=
  if (decide (x16 < 3)) = true then (if 0 ≤ x16 then (if x16 < 3 then (if ((sel [b5.x, b5.y, b5.z] x16) != 0) = true then (if 0 ≤ x16 then (if x16 < 3 then (if 0 ≤ x16 then (if x16 < 3 then (if 0 ≤ x16 then (if x16 < 3 then (if 0 ≤ x16 then (if x16 < 3 then (some (.inl (((decide ((W ((W (b2.d * (if (W (0 - (sel [b6.x, b6.y, b6.z] x16))) > (sel [b6.x, b6.y, b6.z] x16) then (W (0 - (sel [b6.x, b6.y, b6.z] x16))) else (sel [b6.x, b6.y, b6.z] x16)))) + (W (b3.d * (if (W (0 - (sel [b5.x, b5.y, b5.z] x16))) > (sel [b5.x, b5.y, b5.z] x16) then (W (0 - (sel [b5.x, b5.y, b5.z] x16))) else (sel [b5.x, b5.y, b5.z] x16)))))) ≤ 0)), ()), (())))) else none) else none) else none) else none) else none) else none) else none) else none) else (J (W (x16 + 1)) b2 b3 b5 b6)) else none) else none) else (some (.inr ((()), (()))))
noncomputable def impl_clash2.l5 (k : Nat)  : Nat → Int → S4 → S4 → S3 → S3 → Option impl_clash2.B5
  | 0, _, _, _, _, _ => none
  | n + 1, x16, b2, b3, b5, b6 => impl_clash2.s5 k (impl_clash2.l5 k n) x16 b2 b3 b5 b6
noncomputable def impl_clash2.f (k : Nat) (a0 : S4) (a1 : S4) : Option Bool :=
  (impl_parallel.f k  a0 a1).bind fun t1 => if (decide (t1 ≥ 0)) = true then (some false) else ((impl_normal.f k  a0).bind fun t2 => (impl_normal.f k  a1).bind fun t3 => (impl_clash2.l5 k k 0 a0 a1 t2 t3).bind fun | .inl r4 => (some r4.1.1) | .inr x5 => (some false))
noncomputable def impl_clash2.e (k : Nat) : FE := { α := S4 × S4 × Unit, β := Bool, args := (lCons aS4 (lCons aS4 lNil)), ret := (rOne aB), f := fun p => impl_clash2.f k p.1 p.2.1 }
noncomputable def impl_clash2.c (k : Nat) : List (Nat × CE) := [(96, .fn (impl_parallel.e k)), (58, .fn (impl_normal.e k))]
noncomputable def impl_clash2.bd : Code := match Tryz.f76.body with | some c => c | none => .skip
noncomputable def impl_clash2.e5 (k : Nat) : LE := { H := impl_clash2.H5, α := impl_clash2.A5, β := impl_clash2.B5, st := impl_clash2.Z5, xt := impl_clash2.X5, f := fun p => impl_clash2.l5 k k p.1.2.2.2.2.1 p.2.1 p.2.2.1 p.2.2.2.1 p.2.2.2.2.1 }
noncomputable def impl_clash2.g (k : Nat) : List (Nat × LE) := [(5, impl_clash2.e5 k)]
theorem impl_clash2.t5 (k : Nat) (I : S2 → Option impl_clash2.B5) (x16 : Int) (b2 : S4) (b3 : S4) (b5 : S3) (b6 : S3) : stepOf (mkCx Tryz.prog (impl_clash2.c k) (impl_clash2.g k) : Cx impl_clash2.B5) (loopAt impl_clash2.bd 0) impl_clash2.H5 impl_clash2.X5.dec I (impl_clash2.Z5.enc (((), (), (), (), x16, ()), (b2, b3, b5, b6, ()))) = impl_clash2.s5 k (fun x16 b2 b3 b5 b6 => I (impl_clash2.Z5.enc (((), (), (), (), x16, ()), (b2, b3, b5, b6, ())))) x16 b2 b3 b5 b6 := by kernel_rfl
theorem impl_clash2.i5 (k : Nat) : ∀ (n : Nat) (x16 : Int) (b2 : S4) (b3 : S4) (b5 : S3) (b6 : S3), iter (evCode (mkCx Tryz.prog (impl_clash2.c k) (impl_clash2.g k) : Cx impl_clash2.B5) (loopAt impl_clash2.bd 0)) impl_clash2.H5 impl_clash2.X5.dec n (impl_clash2.Z5.enc (((), (), (), (), x16, ()), (b2, b3, b5, b6, ()))) = impl_clash2.l5 k n x16 b2 b3 b5 b6
  | 0, _, _, _, _, _ => rfl
  | n + 1, x16, b2, b3, b5, b6 => ((iter_step _ _ _ _ n _).trans (impl_clash2.t5 k _ x16 b2 b3 b5 b6)).trans (congrArg (fun J => impl_clash2.s5 k J x16 b2 b3 b5 b6) (funext fun x16 => funext fun b2 => funext fun b3 => funext fun b5 => funext fun b6 => impl_clash2.i5 k n x16 b2 b3 b5 b6))
theorem impl_clash2.to5 (k : Nat) (hC : AllFun Tryz.prog (impl_clash2.c k)) : LoopTo Tryz.prog 48 (impl_clash2.e5 k) (loopAt impl_clash2.bd 0) := loop_to mixed hC (by kernel_rfl) (loops_all 0 (by kernel_rfl) fun i hi => absurd hi (Nat.not_lt_zero i)) fun a b h => ⟨k, (impl_clash2.i5 k k a.1.2.2.2.2.1 a.2.1 a.2.2.1 a.2.2.2.1 a.2.2.2.2.1).trans h⟩
theorem impl_clash2.link (k : Nat) (a0 : S4) (a1 : S4) : evFun (mkCx Tryz.prog (impl_clash2.c k) (impl_clash2.g k) : Cx Bool) Tryz.f76 ((impl_clash2.e k).args.enc (a0, a1, ())) (impl_clash2.e k).ret.dec = impl_clash2.f k a0 a1 := by kernel_rfl
theorem impl_clash2.ok1 (k : Nat) (hC : AllFun Tryz.prog (impl_clash2.c k)) : Fun Tryz.prog 76 (impl_clash2.e k).G := fun_ok mixed (body := impl_clash2.bd) Tryz.func76 (by kernel_rfl) (by kernel_rfl) (by kernel_rfl) hC (loops_all 1 (by kernel_rfl) fun i hi => by obtain rfl : i = 0 := Nat.lt_one_iff.1 hi; exact ⟨impl_clash2.e5 k, by kernel_rfl, impl_clash2.to5 k hC⟩) (impl_clash2.e k) (fun a => Nat.le_of_ble_eq_true (by kernel_rfl)) fun a b h => (impl_clash2.link k a.1 a.2.1).trans h
theorem impl_clash2.ok (k : Nat) : Fun Tryz.prog 76 (impl_clash2.e k).G := impl_clash2.ok1 k ⟨impl_parallel.ok k, impl_normal.ok k, trivial⟩

noncomputable def impl_det.f (k : Nat) (a0 : S3) (a1 : S3) (a2 : S3) : Option Int :=
  (impl_crossOf.f k  a1 a2).bind fun t1 => (impl_dot.f k  a0 t1).bind fun t2 => some t2
noncomputable def impl_det.e (k : Nat) : FE := { α := S3 × S3 × S3 × Unit, β := Int, args := (lCons aS3 (lCons aS3 (lCons aS3 lNil))), ret := (rOne (aI .i64)), f := fun p => impl_det.f k p.1 p.2.1 p.2.2.1 }
noncomputable def impl_det.c (k : Nat) : List (Nat × CE) := [(57, .fn (impl_crossOf.e k)), (85, .fn (impl_dot.e k))]
noncomputable def impl_det.bd : Code := match Tryz.f84.body with | some c => c | none => .skip
noncomputable def impl_det.g (k : Nat) : List (Nat × LE) := []
theorem impl_det.link (k : Nat) (a0 : S3) (a1 : S3) (a2 : S3) : evFun (mkCx Tryz.prog (impl_det.c k) (impl_det.g k) : Cx Int) Tryz.f84 ((impl_det.e k).args.enc (a0, a1, a2, ())) (impl_det.e k).ret.dec = impl_det.f k a0 a1 a2 := by kernel_rfl
theorem impl_det.ok1 (k : Nat) (hC : AllFun Tryz.prog (impl_det.c k)) : Fun Tryz.prog 84 (impl_det.e k).G := fun_ok mixed (body := impl_det.bd) Tryz.func84 (by kernel_rfl) (by kernel_rfl) (by kernel_rfl) hC (loops_all 0 (by kernel_rfl) fun i hi => absurd hi (Nat.not_lt_zero i)) (impl_det.e k) (fun a => Nat.le_of_ble_eq_true (by kernel_rfl)) fun a b h => (impl_det.link k a.1 a.2.1 a.2.2.1).trans h
theorem impl_det.ok (k : Nat) : Fun Tryz.prog 84 (impl_det.e k).G := impl_det.ok1 k ⟨impl_crossOf.ok k, impl_dot.ok k, trivial⟩

noncomputable def impl_weighs.H4 : Hd := ⟨[], [1, 5, 6, 13, 14, 15], [], [], []⟩
@[reducible] def impl_weighs.A4 : Type := (((List Int) × Int × Int × (List Int) × Int × Int × Unit) × (Unit))
noncomputable def impl_weighs.Z4 : SC impl_weighs.A4 := sC impl_weighs.H4 (eCons 1 (tP (aSl (.i .i64))) (eCons 5 (tP (aI .i64)) (eCons 6 (tP (aI .i64)) (eCons 13 (tP (aSl (.i .i64))) (eCons 14 (tP (aI .i64)) (eCons 15 (tP (aI .i64)) eNil)))))) bNil
@[reducible] def impl_weighs.B4 : Type := ((Bool × Unit) × (Unit)) ⊕ ((Int × Int × Unit) × (Unit))
noncomputable def impl_weighs.X4 : XC impl_weighs.B4 := xOr (xRet (sC ⟨[], [4], [], [], []⟩ (eCons 4 (tP aB) eNil) bNil)) (xExit 0 (sC ⟨[], [5, 6], [], [], []⟩ (eCons 5 (tP (aI .i64)) (eCons 6 (tP (aI .i64)) eNil)) bNil))
noncomputable def impl_weighs.s4 (k : Nat)  (J : (List Int) → Int → Int → (List Int) → Int → Int → Option impl_weighs.B4) (x1 : List Int) (x5 : Int) (x6 : Int) (x13 : List Int) (x14 : Int) (x15 : Int) : Option impl_weighs.B4 :=
  if (decide (x15 < x14)) = true then (if 0 ≤ x15 then (if x15 < (x13.length : Int) then (if (x5 == 0) = true then (some (.inl ((false, ()), (())))) else ((impl_sign.f k  (rd x13 x15)).bind fun t2 => if (t2 != x5) = true then (some (.inl ((false, ()), (())))) else (if 0 ≤ x15 then (if x15 < (x1.length : Int) then (J x1 x5 (W (x6 + (W ((rd x13 x15) * (rd x1 x15))))) x13 x14 (W (x15 + 1))) else none) else none))) else none) else none) else (some (.inr ((x5, x6, ()), (()))))
noncomputable def impl_weighs.l4 (k : Nat)  : Nat → (List Int) → Int → Int → (List Int) → Int → Int → Option impl_weighs.B4
  | 0, _, _, _, _, _, _ => none
  | n + 1, x1, x5, x6, x13, x14, x15 => impl_weighs.s4 k (impl_weighs.l4 k n) x1 x5 x6 x13 x14 x15
noncomputable def impl_weighs.f (k : Nat) (a0 : List Int) (a1 : List Int) : Option Bool :=
  if 0 ≤ 0 then (if 0 < (a0.length : Int) then ((impl_sign.f k  (rd a0 0)).bind fun t1 => (impl_weighs.l4 k k a1 t1 0 a0 (a0.length : Int) 0).bind fun | .inl r3 => (some r3.1.1) | .inr x4 => (some (decide ((W (x4.1.2.1 * x4.1.1)) ≤ 0)))) else none) else none
noncomputable def impl_weighs.e (k : Nat) : FE := { α := (List Int) × (List Int) × Unit, β := Bool, args := (lCons (aSl (.i .i64)) (lCons (aSl (.i .i64)) lNil)), ret := (rOne aB), f := fun p => impl_weighs.f k p.1 p.2.1 }
noncomputable def impl_weighs.c (k : Nat) : List (Nat × CE) := [(82, .fn (impl_sign.e k))]
noncomputable def impl_weighs.bd : Code := match Tryz.f97.body with | some c => c | none => .skip
noncomputable def impl_weighs.e4 (k : Nat) : LE := { H := impl_weighs.H4, α := impl_weighs.A4, β := impl_weighs.B4, st := impl_weighs.Z4, xt := impl_weighs.X4, f := fun p => impl_weighs.l4 k k p.1.1 p.1.2.1 p.1.2.2.1 p.1.2.2.2.1 p.1.2.2.2.2.1 p.1.2.2.2.2.2.1 }
noncomputable def impl_weighs.g (k : Nat) : List (Nat × LE) := [(4, impl_weighs.e4 k)]
theorem impl_weighs.t4 (k : Nat) (I : S2 → Option impl_weighs.B4) (x1 : List Int) (x5 : Int) (x6 : Int) (x13 : List Int) (x14 : Int) (x15 : Int) : stepOf (mkCx Tryz.prog (impl_weighs.c k) (impl_weighs.g k) : Cx impl_weighs.B4) (loopAt impl_weighs.bd 0) impl_weighs.H4 impl_weighs.X4.dec I (impl_weighs.Z4.enc ((x1, x5, x6, x13, x14, x15, ()), (()))) = impl_weighs.s4 k (fun x1 x5 x6 x13 x14 x15 => I (impl_weighs.Z4.enc ((x1, x5, x6, x13, x14, x15, ()), (())))) x1 x5 x6 x13 x14 x15 := by kernel_rfl
theorem impl_weighs.i4 (k : Nat) : ∀ (n : Nat) (x1 : List Int) (x5 : Int) (x6 : Int) (x13 : List Int) (x14 : Int) (x15 : Int), iter (evCode (mkCx Tryz.prog (impl_weighs.c k) (impl_weighs.g k) : Cx impl_weighs.B4) (loopAt impl_weighs.bd 0)) impl_weighs.H4 impl_weighs.X4.dec n (impl_weighs.Z4.enc ((x1, x5, x6, x13, x14, x15, ()), (()))) = impl_weighs.l4 k n x1 x5 x6 x13 x14 x15
  | 0, _, _, _, _, _, _ => rfl
  | n + 1, x1, x5, x6, x13, x14, x15 => ((iter_step _ _ _ _ n _).trans (impl_weighs.t4 k _ x1 x5 x6 x13 x14 x15)).trans (congrArg (fun J => impl_weighs.s4 k J x1 x5 x6 x13 x14 x15) (funext fun x1 => funext fun x5 => funext fun x6 => funext fun x13 => funext fun x14 => funext fun x15 => impl_weighs.i4 k n x1 x5 x6 x13 x14 x15))
theorem impl_weighs.to4 (k : Nat) (hC : AllFun Tryz.prog (impl_weighs.c k)) : LoopTo Tryz.prog 41 (impl_weighs.e4 k) (loopAt impl_weighs.bd 0) := loop_to mixed hC (by kernel_rfl) (loops_all 0 (by kernel_rfl) fun i hi => absurd hi (Nat.not_lt_zero i)) fun a b h => ⟨k, (impl_weighs.i4 k k a.1.1 a.1.2.1 a.1.2.2.1 a.1.2.2.2.1 a.1.2.2.2.2.1 a.1.2.2.2.2.2.1).trans h⟩
theorem impl_weighs.link (k : Nat) (a0 : List Int) (a1 : List Int) : evFun (mkCx Tryz.prog (impl_weighs.c k) (impl_weighs.g k) : Cx Bool) Tryz.f97 ((impl_weighs.e k).args.enc (a0, a1, ())) (impl_weighs.e k).ret.dec = impl_weighs.f k a0 a1 := by kernel_rfl
theorem impl_weighs.ok1 (k : Nat) (hC : AllFun Tryz.prog (impl_weighs.c k)) : Fun Tryz.prog 97 (impl_weighs.e k).G := fun_ok mixed (body := impl_weighs.bd) Tryz.func97 (by kernel_rfl) (by kernel_rfl) (by kernel_rfl) hC (loops_all 1 (by kernel_rfl) fun i hi => by obtain rfl : i = 0 := Nat.lt_one_iff.1 hi; exact ⟨impl_weighs.e4 k, by kernel_rfl, impl_weighs.to4 k hC⟩) (impl_weighs.e k) (fun a => Nat.le_of_ble_eq_true (by kernel_rfl)) fun a b h => (impl_weighs.link k a.1 a.2.1).trans h
theorem impl_weighs.ok (k : Nat) : Fun Tryz.prog 97 (impl_weighs.e k).G := impl_weighs.ok1 k ⟨impl_sign.ok k, trivial⟩

noncomputable def impl_clash3.f (k : Nat) (a0 : S4) (a1 : S4) (a2 : S4) : Option Bool :=
  (impl_normal.f k  a0).bind fun t1 => (impl_normal.f k  a1).bind fun t2 => (impl_normal.f k  a2).bind fun t3 => (impl_det.f k  t1 t2 t3).bind fun t4 => if (t4 != 0) = true then (some false) else ((impl_crossOf.f k  t1 t2).bind fun t5 => (impl_crossOf.f k  t2 t3).bind fun t6 => (impl_dot.f k  t6 t5).bind fun t7 => (impl_crossOf.f k  t3 t1).bind fun t8 => (impl_dot.f k  t8 t5).bind fun t9 => (impl_dot.f k  t5 t5).bind fun t10 => (impl_weighs.f k  ([t7, t9, t10] : List Int) ([a0.d, a1.d, a2.d] : List Int)).bind fun t11 => some t11)
noncomputable def impl_clash3.e (k : Nat) : FE := { α := S4 × S4 × S4 × Unit, β := Bool, args := (lCons aS4 (lCons aS4 (lCons aS4 lNil))), ret := (rOne aB), f := fun p => impl_clash3.f k p.1 p.2.1 p.2.2.1 }
noncomputable def impl_clash3.c (k : Nat) : List (Nat × CE) := [(58, .fn (impl_normal.e k)), (84, .fn (impl_det.e k)), (57, .fn (impl_crossOf.e k)), (85, .fn (impl_dot.e k)), (97, .fn (impl_weighs.e k))]
noncomputable def impl_clash3.bd : Code := match Tryz.f77.body with | some c => c | none => .skip
noncomputable def impl_clash3.g (k : Nat) : List (Nat × LE) := []
theorem impl_clash3.link (k : Nat) (a0 : S4) (a1 : S4) (a2 : S4) : evFun (mkCx Tryz.prog (impl_clash3.c k) (impl_clash3.g k) : Cx Bool) Tryz.f77 ((impl_clash3.e k).args.enc (a0, a1, a2, ())) (impl_clash3.e k).ret.dec = impl_clash3.f k a0 a1 a2 := by kernel_rfl
theorem impl_clash3.ok1 (k : Nat) (hC : AllFun Tryz.prog (impl_clash3.c k)) : Fun Tryz.prog 77 (impl_clash3.e k).G := fun_ok mixed (body := impl_clash3.bd) Tryz.func77 (by kernel_rfl) (by kernel_rfl) (by kernel_rfl) hC (loops_all 0 (by kernel_rfl) fun i hi => absurd hi (Nat.not_lt_zero i)) (impl_clash3.e k) (fun a => Nat.le_of_ble_eq_true (by kernel_rfl)) fun a b h => (impl_clash3.link k a.1 a.2.1 a.2.2.1).trans h
theorem impl_clash3.ok (k : Nat) : Fun Tryz.prog 77 (impl_clash3.e k).G := impl_clash3.ok1 k ⟨impl_normal.ok k, impl_det.ok k, impl_crossOf.ok k, impl_dot.ok k, impl_weighs.ok k, trivial⟩

noncomputable def impl_det3.f (k : Nat) (a0 : S4) (a1 : S4) (a2 : S4) : Option Int :=
  (impl_normal.f k  a0).bind fun t1 => (impl_normal.f k  a1).bind fun t2 => (impl_normal.f k  a2).bind fun t3 => (impl_det.f k  t1 t2 t3).bind fun t4 => some t4
noncomputable def impl_det3.e (k : Nat) : FE := { α := S4 × S4 × S4 × Unit, β := Int, args := (lCons aS4 (lCons aS4 (lCons aS4 lNil))), ret := (rOne (aI .i64)), f := fun p => impl_det3.f k p.1 p.2.1 p.2.2.1 }
noncomputable def impl_det3.c (k : Nat) : List (Nat × CE) := [(58, .fn (impl_normal.e k)), (84, .fn (impl_det.e k))]
noncomputable def impl_det3.bd : Code := match Tryz.f86.body with | some c => c | none => .skip
noncomputable def impl_det3.g (k : Nat) : List (Nat × LE) := []
theorem impl_det3.link (k : Nat) (a0 : S4) (a1 : S4) (a2 : S4) : evFun (mkCx Tryz.prog (impl_det3.c k) (impl_det3.g k) : Cx Int) Tryz.f86 ((impl_det3.e k).args.enc (a0, a1, a2, ())) (impl_det3.e k).ret.dec = impl_det3.f k a0 a1 a2 := by kernel_rfl
theorem impl_det3.ok1 (k : Nat) (hC : AllFun Tryz.prog (impl_det3.c k)) : Fun Tryz.prog 86 (impl_det3.e k).G := fun_ok mixed (body := impl_det3.bd) Tryz.func86 (by kernel_rfl) (by kernel_rfl) (by kernel_rfl) hC (loops_all 0 (by kernel_rfl) fun i hi => absurd hi (Nat.not_lt_zero i)) (impl_det3.e k) (fun a => Nat.le_of_ble_eq_true (by kernel_rfl)) fun a b h => (impl_det3.link k a.1 a.2.1 a.2.2.1).trans h
theorem impl_det3.ok (k : Nat) : Fun Tryz.prog 86 (impl_det3.e k).G := impl_det3.ok1 k ⟨impl_normal.ok k, impl_det.ok k, trivial⟩

noncomputable def impl_clash4.f (k : Nat) (a0 : S4) (a1 : S4) (a2 : S4) (a3 : S4) : Option Bool :=
  (impl_det3.f k  a1 a2 a3).bind fun t1 => (impl_det3.f k  a0 a2 a3).bind fun t2 => (impl_det3.f k  a0 a1 a3).bind fun t3 => (impl_det3.f k  a0 a1 a2).bind fun t4 => (impl_weighs.f k  ([t1, (W (0 - t2)), t3, (W (0 - t4))] : List Int) ([a0.d, a1.d, a2.d, a3.d] : List Int)).bind fun t5 => some t5
noncomputable def impl_clash4.e (k : Nat) : FE := { α := S4 × S4 × S4 × S4 × Unit, β := Bool, args := (lCons aS4 (lCons aS4 (lCons aS4 (lCons aS4 lNil)))), ret := (rOne aB), f := fun p => impl_clash4.f k p.1 p.2.1 p.2.2.1 p.2.2.2.1 }
noncomputable def impl_clash4.c (k : Nat) : List (Nat × CE) := [(86, .fn (impl_det3.e k)), (97, .fn (impl_weighs.e k))]
noncomputable def impl_clash4.bd : Code := match Tryz.f78.body with | some c => c | none => .skip
noncomputable def impl_clash4.g (k : Nat) : List (Nat × LE) := []
theorem impl_clash4.link (k : Nat) (a0 : S4) (a1 : S4) (a2 : S4) (a3 : S4) : evFun (mkCx Tryz.prog (impl_clash4.c k) (impl_clash4.g k) : Cx Bool) Tryz.f78 ((impl_clash4.e k).args.enc (a0, a1, a2, a3, ())) (impl_clash4.e k).ret.dec = impl_clash4.f k a0 a1 a2 a3 := by kernel_rfl
theorem impl_clash4.ok1 (k : Nat) (hC : AllFun Tryz.prog (impl_clash4.c k)) : Fun Tryz.prog 78 (impl_clash4.e k).G := fun_ok mixed (body := impl_clash4.bd) Tryz.func78 (by kernel_rfl) (by kernel_rfl) (by kernel_rfl) hC (loops_all 0 (by kernel_rfl) fun i hi => absurd hi (Nat.not_lt_zero i)) (impl_clash4.e k) (fun a => Nat.le_of_ble_eq_true (by kernel_rfl)) fun a b h => (impl_clash4.link k a.1 a.2.1 a.2.2.1 a.2.2.2.1).trans h
theorem impl_clash4.ok (k : Nat) : Fun Tryz.prog 78 (impl_clash4.e k).G := impl_clash4.ok1 k ⟨impl_det3.ok k, impl_weighs.ok k, trivial⟩

noncomputable def impl_room.H12 : Hd := ⟨[], [0, 3, 6, 8, 11, 12, 13, 23, 24, 25, 36, 37, 38], [3, 6, 8], [], []⟩
@[reducible] def impl_room.A12 : Type := (((List S4) × Unit × Unit × Unit × (List S4) × Int × Int × (List S4) × Int × Int × (List S4) × Int × Int × Unit) × (S4 × S4 × S4 × Unit))
noncomputable def impl_room.Z12 : SC impl_room.A12 := sC impl_room.H12 (eCons 0 (tP (aSl .s4)) (eCons 3 (tRef 3 0) (eCons 6 (tRef 6 0) (eCons 8 (tRef 8 0) (eCons 11 (tP (aSl .s4)) (eCons 12 (tP (aI .i64)) (eCons 13 (tP (aI .i64)) (eCons 23 (tP (aSl .s4)) (eCons 24 (tP (aI .i64)) (eCons 25 (tP (aI .i64)) (eCons 36 (tP (aSl .s4)) (eCons 37 (tP (aI .i64)) (eCons 38 (tP (aI .i64)) eNil))))))))))))) (bCons 3 (xVr cS4) (bCons 6 (xVr cS4) (bCons 8 (xVr cS4) bNil)))
@[reducible] def impl_room.B12 : Type := ((Bool × Unit) × (Unit)) ⊕ (((List S4) × Unit × Unit × (List S4) × Int × Int × (List S4) × Int × Int × Unit) × (S4 × S4 × Unit))
noncomputable def impl_room.X12 : XC impl_room.B12 := xOr (xRet (sC ⟨[], [4], [], [], []⟩ (eCons 4 (tP aB) eNil) bNil)) (xExit 4 (sC ⟨[], [0, 3, 6, 11, 12, 13, 23, 24, 25], [3, 6], [], []⟩ (eCons 0 (tP (aSl .s4)) (eCons 3 (tRef 3 0) (eCons 6 (tRef 6 0) (eCons 11 (tP (aSl .s4)) (eCons 12 (tP (aI .i64)) (eCons 13 (tP (aI .i64)) (eCons 23 (tP (aSl .s4)) (eCons 24 (tP (aI .i64)) (eCons 25 (tP (aI .i64)) eNil))))))))) (bCons 3 (xVr cS4) (bCons 6 (xVr cS4) bNil))))
noncomputable def impl_room.s12 (k : Nat)  (J : (List S4) → (List S4) → Int → Int → (List S4) → Int → Int → (List S4) → Int → Int → S4 → S4 → S4 → Option impl_room.B12) (x0 : List S4) (x11 : List S4) (x12 : Int) (x13 : Int) (x23 : List S4) (x24 : Int) (x25 : Int) (x36 : List S4) (x37 : Int) (x38 : Int) (b3 : S4) (b6 : S4) (b8 : S4) : Option impl_room.B12 :=
  if (decide (x38 < x37)) = true then (if 0 ≤ x38 then (if x38 < (x36.length : Int) then ((impl_clash4.f k  (rd x36 x38) b8 b6 b3).bind fun t3 => if t3 = true then (some (.inl ((false, ()), (())))) else (J x0 x11 x12 x13 x23 x24 x25 x36 x37 (W (x38 + 1)) b3 b6 b8)) else none) else none) else (some (.inr ((x0, (), (), x11, x12, x13, x23, x24, x25, ()), (b3, b6, ()))))
noncomputable def impl_room.l12 (k : Nat)  : Nat → (List S4) → (List S4) → Int → Int → (List S4) → Int → Int → (List S4) → Int → Int → S4 → S4 → S4 → Option impl_room.B12
  | 0, _, _, _, _, _, _, _, _, _, _, _, _, _ => none
  | n + 1, x0, x11, x12, x13, x23, x24, x25, x36, x37, x38, b3, b6, b8 => impl_room.s12 k (impl_room.l12 k n) x0 x11 x12 x13 x23 x24 x25 x36 x37 x38 b3 b6 b8
noncomputable def impl_room.H7 : Hd := ⟨[], [0, 3, 6, 11, 12, 13, 23, 24, 25], [3, 6], [], []⟩
@[reducible] def impl_room.A7 : Type := (((List S4) × Unit × Unit × (List S4) × Int × Int × (List S4) × Int × Int × Unit) × (S4 × S4 × Unit))
noncomputable def impl_room.Z7 : SC impl_room.A7 := sC impl_room.H7 (eCons 0 (tP (aSl .s4)) (eCons 3 (tRef 3 0) (eCons 6 (tRef 6 0) (eCons 11 (tP (aSl .s4)) (eCons 12 (tP (aI .i64)) (eCons 13 (tP (aI .i64)) (eCons 23 (tP (aSl .s4)) (eCons 24 (tP (aI .i64)) (eCons 25 (tP (aI .i64)) eNil))))))))) (bCons 3 (xVr cS4) (bCons 6 (xVr cS4) bNil))
@[reducible] def impl_room.B7 : Type := ((Bool × Unit) × (Unit)) ⊕ (((List S4) × Unit × (List S4) × Int × Int × Unit) × (S4 × Unit))
noncomputable def impl_room.X7 : XC impl_room.B7 := xOr (xRet (sC ⟨[], [4], [], [], []⟩ (eCons 4 (tP aB) eNil) bNil)) (xExit 2 (sC ⟨[], [0, 3, 11, 12, 13], [3], [], []⟩ (eCons 0 (tP (aSl .s4)) (eCons 3 (tRef 3 0) (eCons 11 (tP (aSl .s4)) (eCons 12 (tP (aI .i64)) (eCons 13 (tP (aI .i64)) eNil))))) (bCons 3 (xVr cS4) bNil)))
noncomputable def impl_room.s7 (k : Nat)  (J : (List S4) → (List S4) → Int → Int → (List S4) → Int → Int → S4 → S4 → Option impl_room.B7) (x0 : List S4) (x11 : List S4) (x12 : Int) (x13 : Int) (x23 : List S4) (x24 : Int) (x25 : Int) (b3 : S4) (b6 : S4) : Option impl_room.B7 :=
  if (decide (x25 < x24)) = true then (if 0 ≤ x25 then (if x25 < (x23.length : Int) then ((impl_clash3.f k  (rd x23 x25) b6 b3).bind fun t2 => if t2 = true then (some (.inl ((false, ()), (())))) else (if 0 ≤ x25 then (if x25 ≤ (x0.length : Int) then ((impl_room.l12 k k x0 x11 x12 x13 x23 x24 x25 (x0.take x25.toNat) ((x0.take x25.toNat).length : Int) 0 b3 b6 (rd x23 x25)).bind fun | .inl r4 => (some (.inl ((r4.1.1, ()), (())))) | .inr x5 => (J x5.1.1 x5.1.2.2.2.1 x5.1.2.2.2.2.1 x5.1.2.2.2.2.2.1 x5.1.2.2.2.2.2.2.1 x5.1.2.2.2.2.2.2.2.1 (W (x5.1.2.2.2.2.2.2.2.2.1 + 1)) x5.2.1 x5.2.2.1)) else none) else none)) else none) else none) else (some (.inr ((x0, (), x11, x12, x13, ()), (b3, ()))))
noncomputable def impl_room.l7 (k : Nat)  : Nat → (List S4) → (List S4) → Int → Int → (List S4) → Int → Int → S4 → S4 → Option impl_room.B7
  | 0, _, _, _, _, _, _, _, _, _ => none
  | n + 1, x0, x11, x12, x13, x23, x24, x25, b3, b6 => impl_room.s7 k (impl_room.l7 k n) x0 x11 x12 x13 x23 x24 x25 b3 b6
noncomputable def impl_room.H2 : Hd := ⟨[], [0, 3, 11, 12, 13], [3], [], []⟩
@[reducible] def impl_room.A2 : Type := (((List S4) × Unit × (List S4) × Int × Int × Unit) × (S4 × Unit))
noncomputable def impl_room.Z2 : SC impl_room.A2 := sC impl_room.H2 (eCons 0 (tP (aSl .s4)) (eCons 3 (tRef 3 0) (eCons 11 (tP (aSl .s4)) (eCons 12 (tP (aI .i64)) (eCons 13 (tP (aI .i64)) eNil))))) (bCons 3 (xVr cS4) bNil)
@[reducible] def impl_room.B2 : Type := ((Bool × Unit) × (Unit)) ⊕ ((Unit) × (Unit))
noncomputable def impl_room.X2 : XC impl_room.B2 := xOr (xRet (sC ⟨[], [4], [], [], []⟩ (eCons 4 (tP aB) eNil) bNil)) (xExit 0 (sC ⟨[], [], [], [], []⟩ eNil bNil))
noncomputable def impl_room.s2 (k : Nat)  (J : (List S4) → (List S4) → Int → Int → S4 → Option impl_room.B2) (x0 : List S4) (x11 : List S4) (x12 : Int) (x13 : Int) (b3 : S4) : Option impl_room.B2 :=
  if (decide (x13 < x12)) = true then (if 0 ≤ x13 then (if x13 < (x11.length : Int) then ((impl_clash2.f k  (rd x11 x13) b3).bind fun t1 => if t1 = true then (some (.inl ((false, ()), (())))) else (if 0 ≤ x13 then (if x13 ≤ (x0.length : Int) then ((impl_room.l7 k k x0 x11 x12 x13 (x0.take x13.toNat) ((x0.take x13.toNat).length : Int) 0 b3 (rd x11 x13)).bind fun | .inl r6 => (some (.inl ((r6.1.1, ()), (())))) | .inr x7 => (J x7.1.1 x7.1.2.2.1 x7.1.2.2.2.1 (W (x7.1.2.2.2.2.1 + 1)) x7.2.1)) else none) else none)) else none) else none) else (some (.inr ((()), (()))))
noncomputable def impl_room.l2 (k : Nat)  : Nat → (List S4) → (List S4) → Int → Int → S4 → Option impl_room.B2
  | 0, _, _, _, _, _ => none
  | n + 1, x0, x11, x12, x13, b3 => impl_room.s2 k (impl_room.l2 k n) x0 x11 x12 x13 b3
noncomputable def impl_room.f (k : Nat) (a0 : List S4) (a1 : S4) : Option Bool :=
  (impl_room.l2 k k a0 a0 (a0.length : Int) 0 a1).bind fun | .inl r8 => (some r8.1.1) | .inr x9 => (some true)
noncomputable def impl_room.e (k : Nat) : FE := { α := (List S4) × S4 × Unit, β := Bool, args := (lCons (aSl .s4) (lCons aS4 lNil)), ret := (rOne aB), f := fun p => impl_room.f k p.1 p.2.1 }
noncomputable def impl_room.c (k : Nat) : List (Nat × CE) := [(76, .fn (impl_clash2.e k)), (77, .fn (impl_clash3.e k)), (78, .fn (impl_clash4.e k))]
noncomputable def impl_room.bd : Code := match Tryz.f41.body with | some c => c | none => .skip
noncomputable def impl_room.e12 (k : Nat) : LE := { H := impl_room.H12, α := impl_room.A12, β := impl_room.B12, st := impl_room.Z12, xt := impl_room.X12, f := fun p => impl_room.l12 k k p.1.1 p.1.2.2.2.2.1 p.1.2.2.2.2.2.1 p.1.2.2.2.2.2.2.1 p.1.2.2.2.2.2.2.2.1 p.1.2.2.2.2.2.2.2.2.1 p.1.2.2.2.2.2.2.2.2.2.1 p.1.2.2.2.2.2.2.2.2.2.2.1 p.1.2.2.2.2.2.2.2.2.2.2.2.1 p.1.2.2.2.2.2.2.2.2.2.2.2.2.1 p.2.1 p.2.2.1 p.2.2.2.1 }
noncomputable def impl_room.e7 (k : Nat) : LE := { H := impl_room.H7, α := impl_room.A7, β := impl_room.B7, st := impl_room.Z7, xt := impl_room.X7, f := fun p => impl_room.l7 k k p.1.1 p.1.2.2.2.1 p.1.2.2.2.2.1 p.1.2.2.2.2.2.1 p.1.2.2.2.2.2.2.1 p.1.2.2.2.2.2.2.2.1 p.1.2.2.2.2.2.2.2.2.1 p.2.1 p.2.2.1 }
noncomputable def impl_room.e2 (k : Nat) : LE := { H := impl_room.H2, α := impl_room.A2, β := impl_room.B2, st := impl_room.Z2, xt := impl_room.X2, f := fun p => impl_room.l2 k k p.1.1 p.1.2.2.1 p.1.2.2.2.1 p.1.2.2.2.2.1 p.2.1 }
noncomputable def impl_room.g (k : Nat) : List (Nat × LE) := [(12, impl_room.e12 k), (7, impl_room.e7 k), (2, impl_room.e2 k)]
theorem impl_room.t12 (k : Nat) (I : S2 → Option impl_room.B12) (x0 : List S4) (x11 : List S4) (x12 : Int) (x13 : Int) (x23 : List S4) (x24 : Int) (x25 : Int) (x36 : List S4) (x37 : Int) (x38 : Int) (b3 : S4) (b6 : S4) (b8 : S4) : stepOf (mkCx Tryz.prog (impl_room.c k) (impl_room.g k) : Cx impl_room.B12) (loopAt (loopAt (loopAt impl_room.bd 0) 0) 0) impl_room.H12 impl_room.X12.dec I (impl_room.Z12.enc ((x0, (), (), (), x11, x12, x13, x23, x24, x25, x36, x37, x38, ()), (b3, b6, b8, ()))) = impl_room.s12 k (fun x0 x11 x12 x13 x23 x24 x25 x36 x37 x38 b3 b6 b8 => I (impl_room.Z12.enc ((x0, (), (), (), x11, x12, x13, x23, x24, x25, x36, x37, x38, ()), (b3, b6, b8, ())))) x0 x11 x12 x13 x23 x24 x25 x36 x37 x38 b3 b6 b8 := by kernel_rfl
theorem impl_room.i12 (k : Nat) : ∀ (n : Nat) (x0 : List S4) (x11 : List S4) (x12 : Int) (x13 : Int) (x23 : List S4) (x24 : Int) (x25 : Int) (x36 : List S4) (x37 : Int) (x38 : Int) (b3 : S4) (b6 : S4) (b8 : S4), iter (evCode (mkCx Tryz.prog (impl_room.c k) (impl_room.g k) : Cx impl_room.B12) (loopAt (loopAt (loopAt impl_room.bd 0) 0) 0)) impl_room.H12 impl_room.X12.dec n (impl_room.Z12.enc ((x0, (), (), (), x11, x12, x13, x23, x24, x25, x36, x37, x38, ()), (b3, b6, b8, ()))) = impl_room.l12 k n x0 x11 x12 x13 x23 x24 x25 x36 x37 x38 b3 b6 b8
  | 0, _, _, _, _, _, _, _, _, _, _, _, _, _ => rfl
  | n + 1, x0, x11, x12, x13, x23, x24, x25, x36, x37, x38, b3, b6, b8 => ((iter_step _ _ _ _ n _).trans (impl_room.t12 k _ x0 x11 x12 x13 x23 x24 x25 x36 x37 x38 b3 b6 b8)).trans (congrArg (fun J => impl_room.s12 k J x0 x11 x12 x13 x23 x24 x25 x36 x37 x38 b3 b6 b8) (funext fun x0 => funext fun x11 => funext fun x12 => funext fun x13 => funext fun x23 => funext fun x24 => funext fun x25 => funext fun x36 => funext fun x37 => funext fun x38 => funext fun b3 => funext fun b6 => funext fun b8 => impl_room.i12 k n x0 x11 x12 x13 x23 x24 x25 x36 x37 x38 b3 b6 b8))
theorem impl_room.t7 (k : Nat) (I : S2 → Option impl_room.B7) (x0 : List S4) (x11 : List S4) (x12 : Int) (x13 : Int) (x23 : List S4) (x24 : Int) (x25 : Int) (b3 : S4) (b6 : S4) : stepOf (mkCx Tryz.prog (impl_room.c k) (impl_room.g k) : Cx impl_room.B7) (loopAt (loopAt impl_room.bd 0) 0) impl_room.H7 impl_room.X7.dec I (impl_room.Z7.enc ((x0, (), (), x11, x12, x13, x23, x24, x25, ()), (b3, b6, ()))) = impl_room.s7 k (fun x0 x11 x12 x13 x23 x24 x25 b3 b6 => I (impl_room.Z7.enc ((x0, (), (), x11, x12, x13, x23, x24, x25, ()), (b3, b6, ())))) x0 x11 x12 x13 x23 x24 x25 b3 b6 := by kernel_rfl
theorem impl_room.i7 (k : Nat) : ∀ (n : Nat) (x0 : List S4) (x11 : List S4) (x12 : Int) (x13 : Int) (x23 : List S4) (x24 : Int) (x25 : Int) (b3 : S4) (b6 : S4), iter (evCode (mkCx Tryz.prog (impl_room.c k) (impl_room.g k) : Cx impl_room.B7) (loopAt (loopAt impl_room.bd 0) 0)) impl_room.H7 impl_room.X7.dec n (impl_room.Z7.enc ((x0, (), (), x11, x12, x13, x23, x24, x25, ()), (b3, b6, ()))) = impl_room.l7 k n x0 x11 x12 x13 x23 x24 x25 b3 b6
  | 0, _, _, _, _, _, _, _, _, _ => rfl
  | n + 1, x0, x11, x12, x13, x23, x24, x25, b3, b6 => ((iter_step _ _ _ _ n _).trans (impl_room.t7 k _ x0 x11 x12 x13 x23 x24 x25 b3 b6)).trans (congrArg (fun J => impl_room.s7 k J x0 x11 x12 x13 x23 x24 x25 b3 b6) (funext fun x0 => funext fun x11 => funext fun x12 => funext fun x13 => funext fun x23 => funext fun x24 => funext fun x25 => funext fun b3 => funext fun b6 => impl_room.i7 k n x0 x11 x12 x13 x23 x24 x25 b3 b6))
theorem impl_room.t2 (k : Nat) (I : S2 → Option impl_room.B2) (x0 : List S4) (x11 : List S4) (x12 : Int) (x13 : Int) (b3 : S4) : stepOf (mkCx Tryz.prog (impl_room.c k) (impl_room.g k) : Cx impl_room.B2) (loopAt impl_room.bd 0) impl_room.H2 impl_room.X2.dec I (impl_room.Z2.enc ((x0, (), x11, x12, x13, ()), (b3, ()))) = impl_room.s2 k (fun x0 x11 x12 x13 b3 => I (impl_room.Z2.enc ((x0, (), x11, x12, x13, ()), (b3, ())))) x0 x11 x12 x13 b3 := by kernel_rfl
theorem impl_room.i2 (k : Nat) : ∀ (n : Nat) (x0 : List S4) (x11 : List S4) (x12 : Int) (x13 : Int) (b3 : S4), iter (evCode (mkCx Tryz.prog (impl_room.c k) (impl_room.g k) : Cx impl_room.B2) (loopAt impl_room.bd 0)) impl_room.H2 impl_room.X2.dec n (impl_room.Z2.enc ((x0, (), x11, x12, x13, ()), (b3, ()))) = impl_room.l2 k n x0 x11 x12 x13 b3
  | 0, _, _, _, _, _ => rfl
  | n + 1, x0, x11, x12, x13, b3 => ((iter_step _ _ _ _ n _).trans (impl_room.t2 k _ x0 x11 x12 x13 b3)).trans (congrArg (fun J => impl_room.s2 k J x0 x11 x12 x13 b3) (funext fun x0 => funext fun x11 => funext fun x12 => funext fun x13 => funext fun b3 => impl_room.i2 k n x0 x11 x12 x13 b3))
theorem impl_room.to12 (k : Nat) (hC : AllFun Tryz.prog (impl_room.c k)) : LoopTo Tryz.prog 50 (impl_room.e12 k) (loopAt (loopAt (loopAt impl_room.bd 0) 0) 0) := loop_to mixed hC (by kernel_rfl) (loops_all 0 (by kernel_rfl) fun i hi => absurd hi (Nat.not_lt_zero i)) fun a b h => ⟨k, (impl_room.i12 k k a.1.1 a.1.2.2.2.2.1 a.1.2.2.2.2.2.1 a.1.2.2.2.2.2.2.1 a.1.2.2.2.2.2.2.2.1 a.1.2.2.2.2.2.2.2.2.1 a.1.2.2.2.2.2.2.2.2.2.1 a.1.2.2.2.2.2.2.2.2.2.2.1 a.1.2.2.2.2.2.2.2.2.2.2.2.1 a.1.2.2.2.2.2.2.2.2.2.2.2.2.1 a.2.1 a.2.2.1 a.2.2.2.1).trans h⟩
theorem impl_room.to7 (k : Nat) (hC : AllFun Tryz.prog (impl_room.c k)) : LoopTo Tryz.prog 50 (impl_room.e7 k) (loopAt (loopAt impl_room.bd 0) 0) := loop_to mixed hC (by kernel_rfl) (loops_all 1 (by kernel_rfl) fun i hi => by obtain rfl : i = 0 := Nat.lt_one_iff.1 hi; exact ⟨impl_room.e12 k, by kernel_rfl, impl_room.to12 k hC⟩) fun a b h => ⟨k, (impl_room.i7 k k a.1.1 a.1.2.2.2.1 a.1.2.2.2.2.1 a.1.2.2.2.2.2.1 a.1.2.2.2.2.2.2.1 a.1.2.2.2.2.2.2.2.1 a.1.2.2.2.2.2.2.2.2.1 a.2.1 a.2.2.1).trans h⟩
theorem impl_room.to2 (k : Nat) (hC : AllFun Tryz.prog (impl_room.c k)) : LoopTo Tryz.prog 50 (impl_room.e2 k) (loopAt impl_room.bd 0) := loop_to mixed hC (by kernel_rfl) (loops_all 1 (by kernel_rfl) fun i hi => by obtain rfl : i = 0 := Nat.lt_one_iff.1 hi; exact ⟨impl_room.e7 k, by kernel_rfl, impl_room.to7 k hC⟩) fun a b h => ⟨k, (impl_room.i2 k k a.1.1 a.1.2.2.1 a.1.2.2.2.1 a.1.2.2.2.2.1 a.2.1).trans h⟩
theorem impl_room.link (k : Nat) (a0 : List S4) (a1 : S4) : evFun (mkCx Tryz.prog (impl_room.c k) (impl_room.g k) : Cx Bool) Tryz.f41 ((impl_room.e k).args.enc (a0, a1, ())) (impl_room.e k).ret.dec = impl_room.f k a0 a1 := by kernel_rfl
theorem impl_room.ok1 (k : Nat) (hC : AllFun Tryz.prog (impl_room.c k)) : Fun Tryz.prog 41 (impl_room.e k).G := fun_ok mixed (body := impl_room.bd) Tryz.func41 (by kernel_rfl) (by kernel_rfl) (by kernel_rfl) hC (loops_all 1 (by kernel_rfl) fun i hi => by obtain rfl : i = 0 := Nat.lt_one_iff.1 hi; exact ⟨impl_room.e2 k, by kernel_rfl, impl_room.to2 k hC⟩) (impl_room.e k) (fun a => Nat.le_of_ble_eq_true (by kernel_rfl)) fun a b h => (impl_room.link k a.1 a.2.1).trans h
theorem impl_room.ok (k : Nat) : Fun Tryz.prog 41 (impl_room.e k).G := impl_room.ok1 k ⟨impl_clash2.ok k, impl_clash3.ok k, impl_clash4.ok k, trivial⟩

noncomputable def impl_open.H2 : Hd := ⟨[], [0, 5, 6, 7], [], [], []⟩
@[reducible] def impl_open.A2 : Type := (((List S4) × (List S4) × Int × Int × Unit) × (Unit))
noncomputable def impl_open.Z2 : SC impl_open.A2 := sC impl_open.H2 (eCons 0 (tP (aSl .s4)) (eCons 5 (tP (aSl .s4)) (eCons 6 (tP (aI .i64)) (eCons 7 (tP (aI .i64)) eNil)))) bNil
@[reducible] def impl_open.B2 : Type := ((Bool × Unit) × (Unit)) ⊕ ((Unit) × (Unit))
noncomputable def impl_open.X2 : XC impl_open.B2 := xOr (xRet (sC ⟨[], [2], [], [], []⟩ (eCons 2 (tP aB) eNil) bNil)) (xExit 0 (sC ⟨[], [], [], [], []⟩ eNil bNil))
noncomputable def impl_open.s2 (k : Nat)  (J : (List S4) → (List S4) → Int → Int → Option impl_open.B2) (x0 : List S4) (x5 : List S4) (x6 : Int) (x7 : Int) : Option impl_open.B2 :=
  if (decide (x7 < x6)) = true then (if 0 ≤ x7 then (if x7 < (x5.length : Int) then (if 0 ≤ x7 then (if x7 ≤ (x0.length : Int) then ((impl_room.f k  (x0.take x7.toNat) (rd x5 x7)).bind fun t1 => if (!t1) = true then (some (.inl ((false, ()), (())))) else (J x0 x5 x6 (W (x7 + 1)))) else none) else none) else none) else none) else (some (.inr ((()), (()))))
noncomputable def impl_open.l2 (k : Nat)  : Nat → (List S4) → (List S4) → Int → Int → Option impl_open.B2
  | 0, _, _, _, _ => none
  | n + 1, x0, x5, x6, x7 => impl_open.s2 k (impl_open.l2 k n) x0 x5 x6 x7
noncomputable def impl_open.f (k : Nat) (a0 : List S4) : Option Bool :=
  (impl_open.l2 k k a0 a0 (a0.length : Int) 0).bind fun | .inl r2 => (some r2.1.1) | .inr x3 => (some true)
noncomputable def impl_open.e (k : Nat) : FE := { α := (List S4) × Unit, β := Bool, args := (lCons (aSl .s4) lNil), ret := (rOne aB), f := fun p => impl_open.f k p.1 }
noncomputable def impl_open.c (k : Nat) : List (Nat × CE) := [(41, .fn (impl_room.e k))]
noncomputable def impl_open.bd : Code := match Tryz.f39.body with | some c => c | none => .skip
noncomputable def impl_open.e2 (k : Nat) : LE := { H := impl_open.H2, α := impl_open.A2, β := impl_open.B2, st := impl_open.Z2, xt := impl_open.X2, f := fun p => impl_open.l2 k k p.1.1 p.1.2.1 p.1.2.2.1 p.1.2.2.2.1 }
noncomputable def impl_open.g (k : Nat) : List (Nat × LE) := [(2, impl_open.e2 k)]
theorem impl_open.t2 (k : Nat) (I : S2 → Option impl_open.B2) (x0 : List S4) (x5 : List S4) (x6 : Int) (x7 : Int) : stepOf (mkCx Tryz.prog (impl_open.c k) (impl_open.g k) : Cx impl_open.B2) (loopAt impl_open.bd 0) impl_open.H2 impl_open.X2.dec I (impl_open.Z2.enc ((x0, x5, x6, x7, ()), (()))) = impl_open.s2 k (fun x0 x5 x6 x7 => I (impl_open.Z2.enc ((x0, x5, x6, x7, ()), (())))) x0 x5 x6 x7 := by kernel_rfl
theorem impl_open.i2 (k : Nat) : ∀ (n : Nat) (x0 : List S4) (x5 : List S4) (x6 : Int) (x7 : Int), iter (evCode (mkCx Tryz.prog (impl_open.c k) (impl_open.g k) : Cx impl_open.B2) (loopAt impl_open.bd 0)) impl_open.H2 impl_open.X2.dec n (impl_open.Z2.enc ((x0, x5, x6, x7, ()), (()))) = impl_open.l2 k n x0 x5 x6 x7
  | 0, _, _, _, _ => rfl
  | n + 1, x0, x5, x6, x7 => ((iter_step _ _ _ _ n _).trans (impl_open.t2 k _ x0 x5 x6 x7)).trans (congrArg (fun J => impl_open.s2 k J x0 x5 x6 x7) (funext fun x0 => funext fun x5 => funext fun x6 => funext fun x7 => impl_open.i2 k n x0 x5 x6 x7))
theorem impl_open.to2 (k : Nat) (hC : AllFun Tryz.prog (impl_open.c k)) : LoopTo Tryz.prog 19 (impl_open.e2 k) (loopAt impl_open.bd 0) := loop_to mixed hC (by kernel_rfl) (loops_all 0 (by kernel_rfl) fun i hi => absurd hi (Nat.not_lt_zero i)) fun a b h => ⟨k, (impl_open.i2 k k a.1.1 a.1.2.1 a.1.2.2.1 a.1.2.2.2.1).trans h⟩
theorem impl_open.link (k : Nat) (a0 : List S4) : evFun (mkCx Tryz.prog (impl_open.c k) (impl_open.g k) : Cx Bool) Tryz.f39 ((impl_open.e k).args.enc (a0, ())) (impl_open.e k).ret.dec = impl_open.f k a0 := by kernel_rfl
theorem impl_open.ok1 (k : Nat) (hC : AllFun Tryz.prog (impl_open.c k)) : Fun Tryz.prog 39 (impl_open.e k).G := fun_ok mixed (body := impl_open.bd) Tryz.func39 (by kernel_rfl) (by kernel_rfl) (by kernel_rfl) hC (loops_all 1 (by kernel_rfl) fun i hi => by obtain rfl : i = 0 := Nat.lt_one_iff.1 hi; exact ⟨impl_open.e2 k, by kernel_rfl, impl_open.to2 k hC⟩) (impl_open.e k) (fun a => Nat.le_of_ble_eq_true (by kernel_rfl)) fun a b h => (impl_open.link k a.1).trans h
theorem impl_open.ok (k : Nat) : Fun Tryz.prog 39 (impl_open.e k).G := impl_open.ok1 k ⟨impl_room.ok k, trivial⟩

noncomputable def impl_Open.f (k : Nat) (a0 : List S4) : Option Bool :=
  if (decide ((a0.length : Int) ≤ 24)) = true then ((impl_planesOk.f k  a0).bind fun t1 => if t1 = true then ((impl_open.f k  a0).bind fun t2 => some t2) else (some false)) else (some false)
noncomputable def impl_Open.e (k : Nat) : FE := { α := (List S4) × Unit, β := Bool, args := (lCons (aSl .s4) lNil), ret := (rOne aB), f := fun p => impl_Open.f k p.1 }
noncomputable def impl_Open.c (k : Nat) : List (Nat × CE) := [(38, .fn (impl_planesOk.e k)), (39, .fn (impl_open.e k))]
noncomputable def impl_Open.bd : Code := match Tryz.f18.body with | some c => c | none => .skip
noncomputable def impl_Open.g (k : Nat) : List (Nat × LE) := []
theorem impl_Open.link (k : Nat) (a0 : List S4) : evFun (mkCx Tryz.prog (impl_Open.c k) (impl_Open.g k) : Cx Bool) Tryz.f18 ((impl_Open.e k).args.enc (a0, ())) (impl_Open.e k).ret.dec = impl_Open.f k a0 := by kernel_rfl
theorem impl_Open.ok1 (k : Nat) (hC : AllFun Tryz.prog (impl_Open.c k)) : Fun Tryz.prog 18 (impl_Open.e k).G := fun_ok mixed (body := impl_Open.bd) Tryz.func18 (by kernel_rfl) (by kernel_rfl) (by kernel_rfl) hC (loops_all 0 (by kernel_rfl) fun i hi => absurd hi (Nat.not_lt_zero i)) (impl_Open.e k) (fun a => Nat.le_of_ble_eq_true (by kernel_rfl)) fun a b h => (impl_Open.link k a.1).trans h
theorem impl_Open.ok (k : Nat) : Fun Tryz.prog 18 (impl_Open.e k).G := impl_Open.ok1 k ⟨impl_planesOk.ok k, impl_open.ok k, trivial⟩

noncomputable def slices_Index.H2 : Hd := ⟨[], [0, 3, 7, 8], [3], [], []⟩
@[reducible] def slices_Index.A2 : Type := (((List S4) × Unit × Int × Int × Unit) × (S4 × Unit))
noncomputable def slices_Index.Z2 : SC slices_Index.A2 := sC slices_Index.H2 (eCons 0 (tP (aSl .s4)) (eCons 3 (tRef 3 0) (eCons 7 (tP (aI .i64)) (eCons 8 (tP (aI .i64)) eNil)))) (bCons 3 (xVr cS4) bNil)
@[reducible] def slices_Index.B2 : Type := ((Int × Unit) × (Unit)) ⊕ ((Unit) × (Unit))
noncomputable def slices_Index.X2 : XC slices_Index.B2 := xOr (xRet (sC ⟨[], [4], [], [], []⟩ (eCons 4 (tP (aI .i64)) eNil) bNil)) (xExit 0 (sC ⟨[], [], [], [], []⟩ eNil bNil))
noncomputable def slices_Index.s2 (k : Nat)  (J : (List S4) → Int → Int → S4 → Option slices_Index.B2) (x0 : List S4) (x7 : Int) (x8 : Int) (b3 : S4) : Option slices_Index.B2 :=
  if (decide (x8 < x7)) = true then (if 0 ≤ x8 then (if x8 < (x0.length : Int) then (if ((b3.a == (rd x0 x8).a) && ((b3.b == (rd x0 x8).b) && ((b3.c == (rd x0 x8).c) && (b3.d == (rd x0 x8).d)))) = true then (some (.inl ((x8, ()), (())))) else (J x0 x7 (W (x8 + 1)) b3)) else none) else none) else (some (.inr ((()), (()))))
noncomputable def slices_Index.l2 (k : Nat)  : Nat → (List S4) → Int → Int → S4 → Option slices_Index.B2
  | 0, _, _, _, _ => none
  | n + 1, x0, x7, x8, b3 => slices_Index.s2 k (slices_Index.l2 k n) x0 x7 x8 b3
noncomputable def slices_Index.f (k : Nat) (a0 : List S4) (a1 : S4) : Option Int :=
  (slices_Index.l2 k k a0 (a0.length : Int) 0 a1).bind fun | .inl r1 => (some r1.1.1) | .inr x2 => (some (-1))
noncomputable def slices_Index.e (k : Nat) : FE := { α := (List S4) × S4 × Unit, β := Int, args := (lCons (aSl .s4) (lCons aS4 lNil)), ret := (rOne (aI .i64)), f := fun p => slices_Index.f k p.1 p.2.1 }
noncomputable def slices_Index.c (k : Nat) : List (Nat × CE) := []
noncomputable def slices_Index.bd : Code := match Tryz.f40.body with | some c => c | none => .skip
noncomputable def slices_Index.e2 (k : Nat) : LE := { H := slices_Index.H2, α := slices_Index.A2, β := slices_Index.B2, st := slices_Index.Z2, xt := slices_Index.X2, f := fun p => slices_Index.l2 k k p.1.1 p.1.2.2.1 p.1.2.2.2.1 p.2.1 }
noncomputable def slices_Index.g (k : Nat) : List (Nat × LE) := [(2, slices_Index.e2 k)]
theorem slices_Index.t2 (k : Nat) (I : S2 → Option slices_Index.B2) (x0 : List S4) (x7 : Int) (x8 : Int) (b3 : S4) : stepOf (mkCx Tryz.prog (slices_Index.c k) (slices_Index.g k) : Cx slices_Index.B2) (loopAt slices_Index.bd 0) slices_Index.H2 slices_Index.X2.dec I (slices_Index.Z2.enc ((x0, (), x7, x8, ()), (b3, ()))) = slices_Index.s2 k (fun x0 x7 x8 b3 => I (slices_Index.Z2.enc ((x0, (), x7, x8, ()), (b3, ())))) x0 x7 x8 b3 := by kernel_rfl
theorem slices_Index.i2 (k : Nat) : ∀ (n : Nat) (x0 : List S4) (x7 : Int) (x8 : Int) (b3 : S4), iter (evCode (mkCx Tryz.prog (slices_Index.c k) (slices_Index.g k) : Cx slices_Index.B2) (loopAt slices_Index.bd 0)) slices_Index.H2 slices_Index.X2.dec n (slices_Index.Z2.enc ((x0, (), x7, x8, ()), (b3, ()))) = slices_Index.l2 k n x0 x7 x8 b3
  | 0, _, _, _, _ => rfl
  | n + 1, x0, x7, x8, b3 => ((iter_step _ _ _ _ n _).trans (slices_Index.t2 k _ x0 x7 x8 b3)).trans (congrArg (fun J => slices_Index.s2 k J x0 x7 x8 b3) (funext fun x0 => funext fun x7 => funext fun x8 => funext fun b3 => slices_Index.i2 k n x0 x7 x8 b3))
theorem slices_Index.to2 (k : Nat) (hC : AllFun Tryz.prog (slices_Index.c k)) : LoopTo Tryz.prog 19 (slices_Index.e2 k) (loopAt slices_Index.bd 0) := loop_to mixed hC (by kernel_rfl) (loops_all 0 (by kernel_rfl) fun i hi => absurd hi (Nat.not_lt_zero i)) fun a b h => ⟨k, (slices_Index.i2 k k a.1.1 a.1.2.2.1 a.1.2.2.2.1 a.2.1).trans h⟩
theorem slices_Index.link (k : Nat) (a0 : List S4) (a1 : S4) : evFun (mkCx Tryz.prog (slices_Index.c k) (slices_Index.g k) : Cx Int) Tryz.f40 ((slices_Index.e k).args.enc (a0, a1, ())) (slices_Index.e k).ret.dec = slices_Index.f k a0 a1 := by kernel_rfl
theorem slices_Index.ok1 (k : Nat) (hC : AllFun Tryz.prog (slices_Index.c k)) : Fun Tryz.prog 40 (slices_Index.e k).G := fun_ok mixed (body := slices_Index.bd) Tryz.func40 (by kernel_rfl) (by kernel_rfl) (by kernel_rfl) hC (loops_all 1 (by kernel_rfl) fun i hi => by obtain rfl : i = 0 := Nat.lt_one_iff.1 hi; exact ⟨slices_Index.e2 k, by kernel_rfl, slices_Index.to2 k hC⟩) (slices_Index.e k) (fun a => Nat.le_of_ble_eq_true (by kernel_rfl)) fun a b h => (slices_Index.link k a.1 a.2.1).trans h
theorem slices_Index.ok (k : Nat) : Fun Tryz.prog 40 (slices_Index.e k).G := slices_Index.ok1 k trivial

noncomputable def impl_flip.f (k : Nat) (a0 : S4) : Option S4 :=
  some (⟨(W (0 - a0.a)), (W (0 - a0.b)), (W (0 - a0.c)), (W (0 - a0.d))⟩ : S4)
noncomputable def impl_flip.e (k : Nat) : FE := { α := S4 × Unit, β := S4, args := (lCons aS4 lNil), ret := (rOne aS4), f := fun p => impl_flip.f k p.1 }
noncomputable def impl_flip.c (k : Nat) : List (Nat × CE) := []
noncomputable def impl_flip.bd : Code := match Tryz.f42.body with | some c => c | none => .skip
noncomputable def impl_flip.g (k : Nat) : List (Nat × LE) := []
theorem impl_flip.link (k : Nat) (a0 : S4) : evFun (mkCx Tryz.prog (impl_flip.c k) (impl_flip.g k) : Cx S4) Tryz.f42 ((impl_flip.e k).args.enc (a0, ())) (impl_flip.e k).ret.dec = impl_flip.f k a0 := by kernel_rfl
theorem impl_flip.ok1 (k : Nat) (hC : AllFun Tryz.prog (impl_flip.c k)) : Fun Tryz.prog 42 (impl_flip.e k).G := fun_ok mixed (body := impl_flip.bd) Tryz.func42 (by kernel_rfl) (by kernel_rfl) (by kernel_rfl) hC (loops_all 0 (by kernel_rfl) fun i hi => absurd hi (Nat.not_lt_zero i)) (impl_flip.e k) (fun a => Nat.le_of_ble_eq_true (by kernel_rfl)) fun a b h => (impl_flip.link k a.1).trans h
theorem impl_flip.ok (k : Nat) : Fun Tryz.prog 42 (impl_flip.e k).G := impl_flip.ok1 k trivial

noncomputable def impl_needed.H8 : Hd := ⟨[(6, 29, .s4)], [0, 3, 4, 5, 6, 9, 10, 11, 21, 22, 23], [5], [], []⟩
@[reducible] def impl_needed.A8 : Type := (((List S4) × Unit × Int × Unit × Unit × (List S4) × Int × Int × (List S4) × Int × Int × Unit) × (S4 × (List Int) × (List S4) × Unit))
noncomputable def impl_needed.Z8 : SC impl_needed.A8 := sC impl_needed.H8 (eCons 0 (tP (aSl .s4)) (eCons 3 (tOsl 1000003) (eCons 4 (tP (aI .i64)) (eCons 5 (tRef 5 0) (eCons 6 (tOsl 1000006) (eCons 9 (tP (aSl .s4)) (eCons 10 (tP (aI .i64)) (eCons 11 (tP (aI .i64)) (eCons 21 (tP (aSl .s4)) (eCons 22 (tP (aI .i64)) (eCons 23 (tP (aI .i64)) eNil))))))))))) (bCons 5 (xVr cS4) (bCons 1000003 (xRow 3 (.i .i64)) (bCons 1000006 (xRow 29 .s4) bNil)))
@[reducible] def impl_needed.B8 : Type := (((List S4) × Unit × Int × Unit × Unit × (List S4) × Int × Int × Unit) × (S4 × (List Int) × (List S4) × Unit))
noncomputable def impl_needed.X8 : XC impl_needed.B8 := xExit 2 (sC ⟨[], [0, 3, 4, 5, 6, 9, 10, 11], [5], [], []⟩ (eCons 0 (tP (aSl .s4)) (eCons 3 (tOsl 1000003) (eCons 4 (tP (aI .i64)) (eCons 5 (tRef 5 0) (eCons 6 (tOsl 1000006) (eCons 9 (tP (aSl .s4)) (eCons 10 (tP (aI .i64)) (eCons 11 (tP (aI .i64)) eNil)))))))) (bCons 5 (xVr cS4) (bCons 1000003 (xRow 3 (.i .i64)) (bCons 1000006 (xRow 29 .s4) bNil))))
noncomputable def impl_needed.s8 (k : Nat)  (J : (List S4) → Int → (List S4) → Int → Int → (List S4) → Int → Int → S4 → (List Int) → (List S4) → Option impl_needed.B8) (x0 : List S4) (x4 : Int) (x9 : List S4) (x10 : Int) (x11 : Int) (x21 : List S4) (x22 : Int) (x23 : Int) (b5 : S4) (b1000003 : List Int) (b1000006 : List S4) : Option impl_needed.B8 :=
  if (decide (x23 < x22)) = true then (if 0 ≤ x23 then (if x23 < (x21.length : Int) then (if (!(((rd x21 x23).a == b5.a) && (((rd x21 x23).b == b5.b) && (((rd x21 x23).c == b5.c) && ((rd x21 x23).d == b5.d))))) = true then (if lt47 (b1000006.length + ([(rd x21 x23)] : List S4).length) = true then (J x0 x4 x9 x10 x11 x21 x22 (W (x23 + 1)) b5 b1000003 (b1000006 ++ ([(rd x21 x23)] : List S4))) else none) else (J x0 x4 x9 x10 x11 x21 x22 (W (x23 + 1)) b5 b1000003 b1000006)) else none) else none) else (some ((x0, (), x4, (), (), x9, x10, x11, ()), (b5, b1000003, b1000006, ())))
noncomputable def impl_needed.l8 (k : Nat)  : Nat → (List S4) → Int → (List S4) → Int → Int → (List S4) → Int → Int → S4 → (List Int) → (List S4) → Option impl_needed.B8
  | 0, _, _, _, _, _, _, _, _, _, _, _ => none
  | n + 1, x0, x4, x9, x10, x11, x21, x22, x23, b5, b1000003, b1000006 => impl_needed.s8 k (impl_needed.l8 k n) x0 x4 x9 x10 x11 x21 x22 x23 b5 b1000003 b1000006
noncomputable def impl_needed.H3 : Hd := ⟨[(3, 3, (.i .i64))], [0, 3, 9, 10, 11], [], [], []⟩
@[reducible] def impl_needed.A3 : Type := (((List S4) × Unit × (List S4) × Int × Int × Unit) × ((List Int) × Unit))
noncomputable def impl_needed.Z3 : SC impl_needed.A3 := sC impl_needed.H3 (eCons 0 (tP (aSl .s4)) (eCons 3 (tOsl 1000003) (eCons 9 (tP (aSl .s4)) (eCons 10 (tP (aI .i64)) (eCons 11 (tP (aI .i64)) eNil))))) (bCons 1000003 (xRow 3 (.i .i64)) bNil)
@[reducible] def impl_needed.B3 : Type := ((Unit × Unit) × ((List Int) × Unit))
noncomputable def impl_needed.X3 : XC impl_needed.B3 := xExit 0 (sC ⟨[], [3], [], [], []⟩ (eCons 3 (tOsl 1000003) eNil) (bCons 1000003 (xRow 3 (.i .i64)) bNil))
noncomputable def impl_needed.s3 (k : Nat)  (J : (List S4) → (List S4) → Int → Int → (List Int) → Option impl_needed.B3) (x0 : List S4) (x9 : List S4) (x10 : Int) (x11 : Int) (b1000003 : List Int) : Option impl_needed.B3 :=
  if (decide (x11 < x10)) = true then (if 0 ≤ x11 then (if x11 < (x9.length : Int) then ((slices_Index.f k  x0 (rd x9 x11)).bind fun t1 => if (t1 != x11) = true then (J x0 x9 x10 (W (x11 + 1)) b1000003) else ((impl_needed.l8 k k x0 x11 x9 x10 x11 x0 (x0.length : Int) 0 (rd x9 x11) b1000003 ([] : List S4)).bind fun x2 => (impl_flip.f k  x2.2.1).bind fun t3 => (impl_room.f k  x2.2.2.2.1 t3).bind fun t4 => if t4 = true then (if lt47 (x2.2.2.1.length + ([x2.1.2.2.1] : List Int).length) = true then (J x2.1.1 x2.1.2.2.2.2.2.1 x2.1.2.2.2.2.2.2.1 (W (x2.1.2.2.2.2.2.2.2.1 + 1)) (x2.2.2.1 ++ ([x2.1.2.2.1] : List Int))) else none) else (J x2.1.1 x2.1.2.2.2.2.2.1 x2.1.2.2.2.2.2.2.1 (W (x2.1.2.2.2.2.2.2.2.1 + 1)) x2.2.2.1))) else none) else none) else (some (((), ()), (b1000003, ())))
noncomputable def impl_needed.l3 (k : Nat)  : Nat → (List S4) → (List S4) → Int → Int → (List Int) → Option impl_needed.B3
  | 0, _, _, _, _, _ => none
  | n + 1, x0, x9, x10, x11, b1000003 => impl_needed.s3 k (impl_needed.l3 k n) x0 x9 x10 x11 b1000003
noncomputable def impl_needed.f (k : Nat) (a0 : List S4) : Option (List Int) :=
  (impl_needed.l3 k k a0 a0 (a0.length : Int) 0 ([] : List Int)).bind fun x5 => some x5.2.1
noncomputable def impl_needed.e (k : Nat) : FE := { α := (List S4) × Unit, β := List Int, args := (lCons (aSl .s4) lNil), ret := (rOwn 3 (.i .i64)), f := fun p => impl_needed.f k p.1 }
noncomputable def impl_needed.c (k : Nat) : List (Nat × CE) := [(40, .fn (slices_Index.e k)), (42, .fn (impl_flip.e k)), (41, .fn (impl_room.e k))]
noncomputable def impl_needed.bd : Code := match Tryz.f19.body with | some c => c | none => .skip
noncomputable def impl_needed.e8 (k : Nat) : LE := { H := impl_needed.H8, α := impl_needed.A8, β := impl_needed.B8, st := impl_needed.Z8, xt := impl_needed.X8, f := fun p => impl_needed.l8 k k p.1.1 p.1.2.2.1 p.1.2.2.2.2.2.1 p.1.2.2.2.2.2.2.1 p.1.2.2.2.2.2.2.2.1 p.1.2.2.2.2.2.2.2.2.1 p.1.2.2.2.2.2.2.2.2.2.1 p.1.2.2.2.2.2.2.2.2.2.2.1 p.2.1 p.2.2.1 p.2.2.2.1 }
noncomputable def impl_needed.e3 (k : Nat) : LE := { H := impl_needed.H3, α := impl_needed.A3, β := impl_needed.B3, st := impl_needed.Z3, xt := impl_needed.X3, f := fun p => impl_needed.l3 k k p.1.1 p.1.2.2.1 p.1.2.2.2.1 p.1.2.2.2.2.1 p.2.1 }
noncomputable def impl_needed.g (k : Nat) : List (Nat × LE) := [(8, impl_needed.e8 k), (3, impl_needed.e3 k)]
theorem impl_needed.t8 (k : Nat) (I : S2 → Option impl_needed.B8) (x0 : List S4) (x4 : Int) (x9 : List S4) (x10 : Int) (x11 : Int) (x21 : List S4) (x22 : Int) (x23 : Int) (b5 : S4) (b1000003 : List Int) (b1000006 : List S4) : stepOf (mkCx Tryz.prog (impl_needed.c k) (impl_needed.g k) : Cx impl_needed.B8) (loopAt (loopAt impl_needed.bd 0) 0) impl_needed.H8 impl_needed.X8.dec I (impl_needed.Z8.enc ((x0, (), x4, (), (), x9, x10, x11, x21, x22, x23, ()), (b5, b1000003, b1000006, ()))) = impl_needed.s8 k (fun x0 x4 x9 x10 x11 x21 x22 x23 b5 b1000003 b1000006 => I (impl_needed.Z8.enc ((x0, (), x4, (), (), x9, x10, x11, x21, x22, x23, ()), (b5, b1000003, b1000006, ())))) x0 x4 x9 x10 x11 x21 x22 x23 b5 b1000003 b1000006 := by kernel_rfl
theorem impl_needed.i8 (k : Nat) : ∀ (n : Nat) (x0 : List S4) (x4 : Int) (x9 : List S4) (x10 : Int) (x11 : Int) (x21 : List S4) (x22 : Int) (x23 : Int) (b5 : S4) (b1000003 : List Int) (b1000006 : List S4), iter (evCode (mkCx Tryz.prog (impl_needed.c k) (impl_needed.g k) : Cx impl_needed.B8) (loopAt (loopAt impl_needed.bd 0) 0)) impl_needed.H8 impl_needed.X8.dec n (impl_needed.Z8.enc ((x0, (), x4, (), (), x9, x10, x11, x21, x22, x23, ()), (b5, b1000003, b1000006, ()))) = impl_needed.l8 k n x0 x4 x9 x10 x11 x21 x22 x23 b5 b1000003 b1000006
  | 0, _, _, _, _, _, _, _, _, _, _, _ => rfl
  | n + 1, x0, x4, x9, x10, x11, x21, x22, x23, b5, b1000003, b1000006 => ((iter_step _ _ _ _ n _).trans (impl_needed.t8 k _ x0 x4 x9 x10 x11 x21 x22 x23 b5 b1000003 b1000006)).trans (congrArg (fun J => impl_needed.s8 k J x0 x4 x9 x10 x11 x21 x22 x23 b5 b1000003 b1000006) (funext fun x0 => funext fun x4 => funext fun x9 => funext fun x10 => funext fun x11 => funext fun x21 => funext fun x22 => funext fun x23 => funext fun b5 => funext fun b1000003 => funext fun b1000006 => impl_needed.i8 k n x0 x4 x9 x10 x11 x21 x22 x23 b5 b1000003 b1000006))
theorem impl_needed.t3 (k : Nat) (I : S2 → Option impl_needed.B3) (x0 : List S4) (x9 : List S4) (x10 : Int) (x11 : Int) (b1000003 : List Int) : stepOf (mkCx Tryz.prog (impl_needed.c k) (impl_needed.g k) : Cx impl_needed.B3) (loopAt impl_needed.bd 0) impl_needed.H3 impl_needed.X3.dec I (impl_needed.Z3.enc ((x0, (), x9, x10, x11, ()), (b1000003, ()))) = impl_needed.s3 k (fun x0 x9 x10 x11 b1000003 => I (impl_needed.Z3.enc ((x0, (), x9, x10, x11, ()), (b1000003, ())))) x0 x9 x10 x11 b1000003 := by kernel_rfl
theorem impl_needed.i3 (k : Nat) : ∀ (n : Nat) (x0 : List S4) (x9 : List S4) (x10 : Int) (x11 : Int) (b1000003 : List Int), iter (evCode (mkCx Tryz.prog (impl_needed.c k) (impl_needed.g k) : Cx impl_needed.B3) (loopAt impl_needed.bd 0)) impl_needed.H3 impl_needed.X3.dec n (impl_needed.Z3.enc ((x0, (), x9, x10, x11, ()), (b1000003, ()))) = impl_needed.l3 k n x0 x9 x10 x11 b1000003
  | 0, _, _, _, _, _ => rfl
  | n + 1, x0, x9, x10, x11, b1000003 => ((iter_step _ _ _ _ n _).trans (impl_needed.t3 k _ x0 x9 x10 x11 b1000003)).trans (congrArg (fun J => impl_needed.s3 k J x0 x9 x10 x11 b1000003) (funext fun x0 => funext fun x9 => funext fun x10 => funext fun x11 => funext fun b1000003 => impl_needed.i3 k n x0 x9 x10 x11 b1000003))
theorem impl_needed.to8 (k : Nat) (hC : AllFun Tryz.prog (impl_needed.c k)) : LoopTo Tryz.prog 45 (impl_needed.e8 k) (loopAt (loopAt impl_needed.bd 0) 0) := loop_to mixed hC (by kernel_rfl) (loops_all 0 (by kernel_rfl) fun i hi => absurd hi (Nat.not_lt_zero i)) fun a b h => ⟨k, (impl_needed.i8 k k a.1.1 a.1.2.2.1 a.1.2.2.2.2.2.1 a.1.2.2.2.2.2.2.1 a.1.2.2.2.2.2.2.2.1 a.1.2.2.2.2.2.2.2.2.1 a.1.2.2.2.2.2.2.2.2.2.1 a.1.2.2.2.2.2.2.2.2.2.2.1 a.2.1 a.2.2.1 a.2.2.2.1).trans h⟩
theorem impl_needed.to3 (k : Nat) (hC : AllFun Tryz.prog (impl_needed.c k)) : LoopTo Tryz.prog 45 (impl_needed.e3 k) (loopAt impl_needed.bd 0) := loop_to mixed hC (by kernel_rfl) (loops_all 1 (by kernel_rfl) fun i hi => by obtain rfl : i = 0 := Nat.lt_one_iff.1 hi; exact ⟨impl_needed.e8 k, by kernel_rfl, impl_needed.to8 k hC⟩) fun a b h => ⟨k, (impl_needed.i3 k k a.1.1 a.1.2.2.1 a.1.2.2.2.1 a.1.2.2.2.2.1 a.2.1).trans h⟩
theorem impl_needed.link (k : Nat) (a0 : List S4) : evFun (mkCx Tryz.prog (impl_needed.c k) (impl_needed.g k) : Cx (List Int)) Tryz.f19 ((impl_needed.e k).args.enc (a0, ())) (impl_needed.e k).ret.dec = impl_needed.f k a0 := by kernel_rfl
theorem impl_needed.ok1 (k : Nat) (hC : AllFun Tryz.prog (impl_needed.c k)) : Fun Tryz.prog 19 (impl_needed.e k).G := fun_ok mixed (body := impl_needed.bd) Tryz.func19 (by kernel_rfl) (by kernel_rfl) (by kernel_rfl) hC (loops_all 1 (by kernel_rfl) fun i hi => by obtain rfl : i = 0 := Nat.lt_one_iff.1 hi; exact ⟨impl_needed.e3 k, by kernel_rfl, impl_needed.to3 k hC⟩) (impl_needed.e k) (fun a => Nat.le_of_ble_eq_true (by kernel_rfl)) fun a b h => (impl_needed.link k a.1).trans h
theorem impl_needed.ok (k : Nat) : Fun Tryz.prog 19 (impl_needed.e k).G := impl_needed.ok1 k ⟨slices_Index.ok k, impl_flip.ok k, impl_room.ok k, trivial⟩

noncomputable def impl_Needed.f (k : Nat) (a0 : List S4) : Option (List Int) :=
  (impl_Open.f k  a0).bind fun t1 => if (!t1) = true then (some ([] : List Int)) else ((impl_needed.f k  a0).bind fun t2 => some t2)
noncomputable def impl_Needed.e (k : Nat) : FE := { α := (List S4) × Unit, β := List Int, args := (lCons (aSl .s4) lNil), ret := (rOwn 3 (.i .i64)), f := fun p => impl_Needed.f k p.1 }
noncomputable def impl_Needed.c (k : Nat) : List (Nat × CE) := [(18, .fn (impl_Open.e k)), (19, .fn (impl_needed.e k))]
noncomputable def impl_Needed.bd : Code := match Tryz.f7.body with | some c => c | none => .skip
noncomputable def impl_Needed.g (k : Nat) : List (Nat × LE) := []
theorem impl_Needed.link (k : Nat) (a0 : List S4) : evFun (mkCx Tryz.prog (impl_Needed.c k) (impl_Needed.g k) : Cx (List Int)) Tryz.f7 ((impl_Needed.e k).args.enc (a0, ())) (impl_Needed.e k).ret.dec = impl_Needed.f k a0 := by kernel_rfl
theorem impl_Needed.ok1 (k : Nat) (hC : AllFun Tryz.prog (impl_Needed.c k)) : Fun Tryz.prog 7 (impl_Needed.e k).G := fun_ok mixed (body := impl_Needed.bd) Tryz.func7 (by kernel_rfl) (by kernel_rfl) (by kernel_rfl) hC (loops_all 0 (by kernel_rfl) fun i hi => absurd hi (Nat.not_lt_zero i)) (impl_Needed.e k) (fun a => Nat.le_of_ble_eq_true (by kernel_rfl)) fun a b h => (impl_Needed.link k a.1).trans h
theorem impl_Needed.ok (k : Nat) : Fun Tryz.prog 7 (impl_Needed.e k).G := impl_Needed.ok1 k ⟨impl_Open.ok k, impl_needed.ok k, trivial⟩

noncomputable def spec_l3In.f (k : Nat) (a0 : S4) : Option Bool :=
  (spec_l1In.f k  a0.a (W (0 - 500)) 500).bind fun t1 => if t1 = true then ((spec_l1In.f k  a0.b (W (0 - 500)) 500).bind fun t2 => if t2 = true then ((spec_l1In.f k  a0.c (W (0 - 500)) 500).bind fun t3 => if t3 = true then ((spec_l1In.f k  a0.d (W (0 - 500)) 500).bind fun t4 => some t4) else (some false)) else (some false)) else (some false)
noncomputable def spec_l3In.e (k : Nat) : FE := { α := S4 × Unit, β := Bool, args := (lCons aS4 lNil), ret := (rOne aB), f := fun p => spec_l3In.f k p.1 }
noncomputable def spec_l3In.c (k : Nat) : List (Nat × CE) := [(27, .fn (spec_l1In.e k))]
noncomputable def spec_l3In.bd : Code := match Tryz.f98.body with | some c => c | none => .skip
noncomputable def spec_l3In.g (k : Nat) : List (Nat × LE) := []
theorem spec_l3In.link (k : Nat) (a0 : S4) : evFun (mkCx Tryz.prog (spec_l3In.c k) (spec_l3In.g k) : Cx Bool) Tryz.f98 ((spec_l3In.e k).args.enc (a0, ())) (spec_l3In.e k).ret.dec = spec_l3In.f k a0 := by kernel_rfl
theorem spec_l3In.ok1 (k : Nat) (hC : AllFun Tryz.prog (spec_l3In.c k)) : Fun Tryz.prog 98 (spec_l3In.e k).G := fun_ok mixed (body := spec_l3In.bd) Tryz.func98 (by kernel_rfl) (by kernel_rfl) (by kernel_rfl) hC (loops_all 0 (by kernel_rfl) fun i hi => absurd hi (Nat.not_lt_zero i)) (spec_l3In.e k) (fun a => Nat.le_of_ble_eq_true (by kernel_rfl)) fun a b h => (spec_l3In.link k a.1).trans h
theorem spec_l3In.ok (k : Nat) : Fun Tryz.prog 98 (spec_l3In.e k).G := spec_l3In.ok1 k ⟨spec_l1In.ok k, trivial⟩

end Go.Proofs.YtalkkenkeilmpaaGreat.G
