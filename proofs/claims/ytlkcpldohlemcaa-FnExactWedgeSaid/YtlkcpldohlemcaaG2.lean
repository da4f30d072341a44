/- Go functions told as plain Lean functions; that the code does what these tell. Printed by a program of the session (evp.py). -/
import Derived.Test.YtlkcpldohlemcaaEv16
import Derived.Test.YtlkcpldohlemcaaG1
namespace Go.Proofs.Ytlkcpldohlemcaa.G
open Go Go.RowKit Go.Proofs Go.Proofs.Ytlkcpldohlemcaa.Ev
set_option linter.unusedVariables false
set_option maxRecDepth 100000

noncomputable def impl_crossOf.f (k : Nat) (a0 : S3) (a1 : S3) : Option S3 :=
  some (⟨(W ((W (a0.y * a1.z)) - (W (a0.z * a1.y)))), (W ((W (a0.z * a1.x)) - (W (a0.x * a1.z)))), (W ((W (a0.x * a1.y)) - (W (a0.y * a1.x))))⟩ : S3)
noncomputable def impl_crossOf.e (k : Nat) : FE := { α := S3 × S3 × Unit, β := S3, args := (lCons aS3 (lCons aS3 lNil)), ret := (rOne aS3), f := fun p => impl_crossOf.f k p.1 p.2.1 }
noncomputable def impl_crossOf.c (k : Nat) : List (Nat × CE) := []
noncomputable def impl_crossOf.bd : Code := match Try.f133.body with | some c => c | none => .skip
noncomputable def impl_crossOf.g (k : Nat) : List (Nat × LE) := []
theorem impl_crossOf.link (k : Nat) (a0 : S3) (a1 : S3) : evFun (mkCx Try.prog (impl_crossOf.c k) (impl_crossOf.g k) : Cx S3) Try.f133 ((impl_crossOf.e k).args.enc (a0, a1, ())) (impl_crossOf.e k).ret.dec = impl_crossOf.f k a0 a1 := by kernel_rfl
theorem impl_crossOf.ok1 (k : Nat) (hC : AllFun Try.prog (impl_crossOf.c k)) : Fun Try.prog 133 (impl_crossOf.e k).G := fun_ok mixed (body := impl_crossOf.bd) Try.func133 (by kernel_rfl) (by kernel_rfl) (by kernel_rfl) hC (loops_all 0 (by kernel_rfl) fun i hi => absurd hi (Nat.not_lt_zero i)) (impl_crossOf.e k) (fun a => Nat.le_of_ble_eq_true (by kernel_rfl)) fun a b h => (impl_crossOf.link k a.1 a.2.1).trans h
theorem impl_crossOf.ok (k : Nat) : Fun Try.prog 133 (impl_crossOf.e k).G := impl_crossOf.ok1 k trivial

noncomputable def impl_normal.f (k : Nat) (a0 : S4) : Option S3 :=
  some (⟨a0.a, a0.b, a0.c⟩ : S3)
noncomputable def impl_normal.e (k : Nat) : FE := { α := S4 × Unit, β := S3, args := (lCons aS4 lNil), ret := (rOne aS3), f := fun p => impl_normal.f k p.1 }
noncomputable def impl_normal.c (k : Nat) : List (Nat × CE) := []
noncomputable def impl_normal.bd : Code := match Try.f134.body with | some c => c | none => .skip
noncomputable def impl_normal.g (k : Nat) : List (Nat × LE) := []
theorem impl_normal.link (k : Nat) (a0 : S4) : evFun (mkCx Try.prog (impl_normal.c k) (impl_normal.g k) : Cx S3) Try.f134 ((impl_normal.e k).args.enc (a0, ())) (impl_normal.e k).ret.dec = impl_normal.f k a0 := by kernel_rfl
theorem impl_normal.ok1 (k : Nat) (hC : AllFun Try.prog (impl_normal.c k)) : Fun Try.prog 134 (impl_normal.e k).G := fun_ok mixed (body := impl_normal.bd) Try.func134 (by kernel_rfl) (by kernel_rfl) (by kernel_rfl) hC (loops_all 0 (by kernel_rfl) fun i hi => absurd hi (Nat.not_lt_zero i)) (impl_normal.e k) (fun a => Nat.le_of_ble_eq_true (by kernel_rfl)) fun a b h => (impl_normal.link k a.1).trans h
theorem impl_normal.ok (k : Nat) : Fun Try.prog 134 (impl_normal.e k).G := impl_normal.ok1 k trivial

noncomputable def impl_dot.f (k : Nat) (a0 : S3) (a1 : S3) : Option Int :=
  some (W ((W ((W (a0.x * a1.x)) + (W (a0.y * a1.y)))) + (W (a0.z * a1.z))))
noncomputable def impl_dot.e (k : Nat) : FE := { α := S3 × S3 × Unit, β := Int, args := (lCons aS3 (lCons aS3 lNil)), ret := (rOne (aI .i64)), f := fun p => impl_dot.f k p.1 p.2.1 }
noncomputable def impl_dot.c (k : Nat) : List (Nat × CE) := []
noncomputable def impl_dot.bd : Code := match Try.f192.body with | some c => c | none => .skip
noncomputable def impl_dot.g (k : Nat) : List (Nat × LE) := []
theorem impl_dot.link (k : Nat) (a0 : S3) (a1 : S3) : evFun (mkCx Try.prog (impl_dot.c k) (impl_dot.g k) : Cx Int) Try.f192 ((impl_dot.e k).args.enc (a0, a1, ())) (impl_dot.e k).ret.dec = impl_dot.f k a0 a1 := by kernel_rfl
theorem impl_dot.ok1 (k : Nat) (hC : AllFun Try.prog (impl_dot.c k)) : Fun Try.prog 192 (impl_dot.e k).G := fun_ok mixed (body := impl_dot.bd) Try.func192 (by kernel_rfl) (by kernel_rfl) (by kernel_rfl) hC (loops_all 0 (by kernel_rfl) fun i hi => absurd hi (Nat.not_lt_zero i)) (impl_dot.e k) (fun a => Nat.le_of_ble_eq_true (by kernel_rfl)) fun a b h => (impl_dot.link k a.1 a.2.1).trans h
theorem impl_dot.ok (k : Nat) : Fun Try.prog 192 (impl_dot.e k).G := impl_dot.ok1 k trivial

noncomputable def impl_parallel.f (k : Nat) (a0 : S4) (a1 : S4) : Option Int :=
  (impl_normal.f k  a0).bind fun t1 => (impl_normal.f k  a1).bind fun t2 => (impl_crossOf.f k  t1 t2).bind fun t3 => if (!((t3.x == 0) && ((t3.y == 0) && (t3.z == 0)))) = true then (some 0) else ((impl_normal.f k  a0).bind fun t4 => (impl_normal.f k  a1).bind fun t5 => (impl_dot.f k  t4 t5).bind fun t6 => (impl_sign.f k  t6).bind fun t7 => some t7)
noncomputable def impl_parallel.e (k : Nat) : FE := { α := S4 × S4 × Unit, β := Int, args := (lCons aS4 (lCons aS4 lNil)), ret := (rOne (aI .i64)), f := fun p => impl_parallel.f k p.1 p.2.1 }
noncomputable def impl_parallel.c (k : Nat) : List (Nat × CE) := [(134, .fn (impl_normal.e k)), (133, .fn (impl_crossOf.e k)), (192, .fn (impl_dot.e k)), (127, .fn (impl_sign.e k))]
noncomputable def impl_parallel.bd : Code := match Try.f129.body with | some c => c | none => .skip
noncomputable def impl_parallel.g (k : Nat) : List (Nat × LE) := []
theorem impl_parallel.link (k : Nat) (a0 : S4) (a1 : S4) : evFun (mkCx Try.prog (impl_parallel.c k) (impl_parallel.g k) : Cx Int) Try.f129 ((impl_parallel.e k).args.enc (a0, a1, ())) (impl_parallel.e k).ret.dec = impl_parallel.f k a0 a1 := by kernel_rfl
theorem impl_parallel.ok1 (k : Nat) (hC : AllFun Try.prog (impl_parallel.c k)) : Fun Try.prog 129 (impl_parallel.e k).G := fun_ok mixed (body := impl_parallel.bd) Try.func129 (by kernel_rfl) (by kernel_rfl) (by kernel_rfl) hC (loops_all 0 (by kernel_rfl) fun i hi => absurd hi (Nat.not_lt_zero i)) (impl_parallel.e k) (fun a => Nat.le_of_ble_eq_true (by kernel_rfl)) fun a b h => (impl_parallel.link k a.1 a.2.1).trans h
theorem impl_parallel.ok (k : Nat) : Fun Try.prog 129 (impl_parallel.e k).G := impl_parallel.ok1 k ⟨impl_normal.ok k, impl_crossOf.ok k, impl_dot.ok k, impl_sign.ok k, trivial⟩

noncomputable def impl_clash2.H5 : Hd := ⟨[], [2, 3, 5, 6, 16], [2, 3, 5, 6], [], []⟩
@[reducible] def impl_clash2.A5 : Type := ((Unit × Unit × Unit × Unit × Int × Unit) × (S4 × S4 × S3 × S3 × Unit))
noncomputable def impl_clash2.Z5 : SC impl_clash2.A5 := sC impl_clash2.H5 (eCons 2 (tRef 2 0) (eCons 3 (tRef 3 0) (eCons 5 (tRef 5 0) (eCons 6 (tRef 6 0) (eCons 16 (tP (aI .i64)) eNil))))) (bCons 2 (xVr cS4) (bCons 3 (xVr cS4) (bCons 5 (xVr cS3) (bCons 6 (xVr cS3) bNil))))
@[reducible] def impl_clash2.B5 : Type := ((Bool × Unit) × (Unit)) ⊕ ((Unit) × (Unit))
noncomputable def impl_clash2.X5 : XC impl_clash2.B5 := xOr (xRet (sC ⟨[], [4], [], [], []⟩ (eCons 4 (tP aB) eNil) bNil)) (xExit 0 (sC ⟨[], [], [], [], []⟩ eNil bNil))
noncomputable def impl_clash2.s5 (k : Nat)  (J : Int → S4 → S4 → S3 → S3 → Option impl_clash2.B5) (x16 : Int) (b2 : S4) (b3 : S4) (b5 : S3) (b6 : S3) : Option impl_clash2.B5 :=
  if (decide (x16 < 3)) = true then (if 0 ≤ x16 then (if x16 < 3 then (if ((sel [b5.x, b5.y, b5.z] x16) != 0) = true then (if 0 ≤ x16 then (if x16 < 3 then (if 0 ≤ x16 then (if x16 < 3 then (if 0 ≤ x16 then (if x16 < 3 then (if 0 ≤ x16 then (if x16 < 3 then (some (.inl (((decide ((W ((W (b2.d * (if (W (0 - (sel [b6.x, b6.y, b6.z] x16))) > (sel [b6.x, b6.y, b6.z] x16) then (W (0 - (sel [b6.x, b6.y, b6.z] x16))) else (sel [b6.x, b6.y, b6.z] x16)))) + (W (b3.d * (if (W (0 - (sel [b5.x, b5.y, b5.z] x16))) > (sel [b5.x, b5.y, b5.z] x16) then (W (0 - (sel [b5.x, b5.y, b5.z] x16))) else (sel [b5.x, b5.y, b5.z] x16)))))) ≤ 0)), ()), (())))) else none) else none) else none) else none) else none) else none) else none) else none) else (J (W (x16 + 1)) b2 b3 b5 b6)) else none) else none) else (some (.inr ((()), (()))))
noncomputable def impl_clash2.l5 (k : Nat)  : Nat → Int → S4 → S4 → S3 → S3 → Option impl_clash2.B5
  | 0, _, _, _, _, _ => none
  | n + 1, x16, b2, b3, b5, b6 => impl_clash2.s5 k (impl_clash2.l5 k n) x16 b2 b3 b5 b6
noncomputable def impl_clash2.f (k : Nat) (a0 : S4) (a1 : S4) : Option Bool :=
  (impl_parallel.f k  a0 a1).bind fun t1 => if (decide (t1 ≥ 0)) = true then (some false) else ((impl_normal.f k  a0).bind fun t2 => (impl_normal.f k  a1).bind fun t3 => (impl_clash2.l5 k k 0 a0 a1 t2 t3).bind fun | .inl r4 => (some r4.1.1) | .inr x5 => (some false))
noncomputable def impl_clash2.e (k : Nat) : FE := { α := S4 × S4 × Unit, β := Bool, args := (lCons aS4 (lCons aS4 lNil)), ret := (rOne aB), f := fun p => impl_clash2.f k p.1 p.2.1 }
noncomputable def impl_clash2.c (k : Nat) : List (Nat × CE) := [(129, .fn (impl_parallel.e k)), (134, .fn (impl_normal.e k))]
noncomputable def impl_clash2.bd : Code := match Try.f205.body with | some c => c | none => .skip
noncomputable def impl_clash2.e5 (k : Nat) : LE := { H := impl_clash2.H5, α := impl_clash2.A5, β := impl_clash2.B5, st := impl_clash2.Z5, xt := impl_clash2.X5, f := fun p => impl_clash2.l5 k k p.1.2.2.2.2.1 p.2.1 p.2.2.1 p.2.2.2.1 p.2.2.2.2.1 }
noncomputable def impl_clash2.g (k : Nat) : List (Nat × LE) := [(5, impl_clash2.e5 k)]
theorem impl_clash2.t5 (k : Nat) (I : S2 → Option impl_clash2.B5) (x16 : Int) (b2 : S4) (b3 : S4) (b5 : S3) (b6 : S3) : stepOf (mkCx Try.prog (impl_clash2.c k) (impl_clash2.g k) : Cx impl_clash2.B5) (loopAt impl_clash2.bd 0) impl_clash2.H5 impl_clash2.X5.dec I (impl_clash2.Z5.enc (((), (), (), (), x16, ()), (b2, b3, b5, b6, ()))) = impl_clash2.s5 k (fun x16 b2 b3 b5 b6 => I (impl_clash2.Z5.enc (((), (), (), (), x16, ()), (b2, b3, b5, b6, ())))) x16 b2 b3 b5 b6 := by kernel_rfl
theorem impl_clash2.i5 (k : Nat) : ∀ (n : Nat) (x16 : Int) (b2 : S4) (b3 : S4) (b5 : S3) (b6 : S3), iter (evCode (mkCx Try.prog (impl_clash2.c k) (impl_clash2.g k) : Cx impl_clash2.B5) (loopAt impl_clash2.bd 0)) impl_clash2.H5 impl_clash2.X5.dec n (impl_clash2.Z5.enc (((), (), (), (), x16, ()), (b2, b3, b5, b6, ()))) = impl_clash2.l5 k n x16 b2 b3 b5 b6
  | 0, _, _, _, _, _ => rfl
  | n + 1, x16, b2, b3, b5, b6 => ((iter_step _ _ _ _ n _).trans (impl_clash2.t5 k _ x16 b2 b3 b5 b6)).trans (congrArg (fun J => impl_clash2.s5 k J x16 b2 b3 b5 b6) (funext fun x16 => funext fun b2 => funext fun b3 => funext fun b5 => funext fun b6 => impl_clash2.i5 k n x16 b2 b3 b5 b6))
theorem impl_clash2.to5 (k : Nat) (hC : AllFun Try.prog (impl_clash2.c k)) : LoopTo Try.prog 48 (impl_clash2.e5 k) (loopAt impl_clash2.bd 0) := loop_to mixed hC (by kernel_rfl) (loops_all 0 (by kernel_rfl) fun i hi => absurd hi (Nat.not_lt_zero i)) fun a b h => ⟨k, (impl_clash2.i5 k k a.1.2.2.2.2.1 a.2.1 a.2.2.1 a.2.2.2.1 a.2.2.2.2.1).trans h⟩
theorem impl_clash2.link (k : Nat) (a0 : S4) (a1 : S4) : evFun (mkCx Try.prog (impl_clash2.c k) (impl_clash2.g k) : Cx Bool) Try.f205 ((impl_clash2.e k).args.enc (a0, a1, ())) (impl_clash2.e k).ret.dec = impl_clash2.f k a0 a1 := by kernel_rfl
theorem impl_clash2.ok1 (k : Nat) (hC : AllFun Try.prog (impl_clash2.c k)) : Fun Try.prog 205 (impl_clash2.e k).G := fun_ok mixed (body := impl_clash2.bd) Try.func205 (by kernel_rfl) (by kernel_rfl) (by kernel_rfl) hC (loops_all 1 (by kernel_rfl) fun i hi => by obtain rfl : i = 0 := Nat.lt_one_iff.1 hi; exact ⟨impl_clash2.e5 k, by kernel_rfl, impl_clash2.to5 k hC⟩) (impl_clash2.e k) (fun a => Nat.le_of_ble_eq_true (by kernel_rfl)) fun a b h => (impl_clash2.link k a.1 a.2.1).trans h
theorem impl_clash2.ok (k : Nat) : Fun Try.prog 205 (impl_clash2.e k).G := impl_clash2.ok1 k ⟨impl_parallel.ok k, impl_normal.ok k, trivial⟩

noncomputable def impl_det.f (k : Nat) (a0 : S3) (a1 : S3) (a2 : S3) : Option Int :=
  (impl_crossOf.f k  a1 a2).bind fun t1 => (impl_dot.f k  a0 t1).bind fun t2 => some t2
noncomputable def impl_det.e (k : Nat) : FE := { α := S3 × S3 × S3 × Unit, β := Int, args := (lCons aS3 (lCons aS3 (lCons aS3 lNil))), ret := (rOne (aI .i64)), f := fun p => impl_det.f k p.1 p.2.1 p.2.2.1 }
noncomputable def impl_det.c (k : Nat) : List (Nat × CE) := [(133, .fn (impl_crossOf.e k)), (192, .fn (impl_dot.e k))]
noncomputable def impl_det.bd : Code := match Try.f140.body with | some c => c | none => .skip
noncomputable def impl_det.g (k : Nat) : List (Nat × LE) := []
theorem impl_det.link (k : Nat) (a0 : S3) (a1 : S3) (a2 : S3) : evFun (mkCx Try.prog (impl_det.c k) (impl_det.g k) : Cx Int) Try.f140 ((impl_det.e k).args.enc (a0, a1, a2, ())) (impl_det.e k).ret.dec = impl_det.f k a0 a1 a2 := by kernel_rfl
theorem impl_det.ok1 (k : Nat) (hC : AllFun Try.prog (impl_det.c k)) : Fun Try.prog 140 (impl_det.e k).G := fun_ok mixed (body := impl_det.bd) Try.func140 (by kernel_rfl) (by kernel_rfl) (by kernel_rfl) hC (loops_all 0 (by kernel_rfl) fun i hi => absurd hi (Nat.not_lt_zero i)) (impl_det.e k) (fun a => Nat.le_of_ble_eq_true (by kernel_rfl)) fun a b h => (impl_det.link k a.1 a.2.1 a.2.2.1).trans h
theorem impl_det.ok (k : Nat) : Fun Try.prog 140 (impl_det.e k).G := impl_det.ok1 k ⟨impl_crossOf.ok k, impl_dot.ok k, trivial⟩

noncomputable def impl_weighs.H4 : Hd := ⟨[], [1, 5, 6, 13, 14, 15], [], [], []⟩
@[reducible] def impl_weighs.A4 : Type := (((List Int) × Int × Int × (List Int) × Int × Int × Unit) × (Unit))
noncomputable def impl_weighs.Z4 : SC impl_weighs.A4 := sC impl_weighs.H4 (eCons 1 (tP (aSl (.i .i64))) (eCons 5 (tP (aI .i64)) (eCons 6 (tP (aI .i64)) (eCons 13 (tP (aSl (.i .i64))) (eCons 14 (tP (aI .i64)) (eCons 15 (tP (aI .i64)) eNil)))))) bNil
@[reducible] def impl_weighs.B4 : Type := ((Bool × Unit) × (Unit)) ⊕ ((Int × Int × Unit) × (Unit))
noncomputable def impl_weighs.X4 : XC impl_weighs.B4 := xOr (xRet (sC ⟨[], [4], [], [], []⟩ (eCons 4 (tP aB) eNil) bNil)) (xExit 0 (sC ⟨[], [5, 6], [], [], []⟩ (eCons 5 (tP (aI .i64)) (eCons 6 (tP (aI .i64)) eNil)) bNil))
noncomputable def impl_weighs.s4 (k : Nat)  (J : (List Int) → Int → Int → (List Int) → Int → Int → Option impl_weighs.B4) (x1 : List Int) (x5 : Int) (x6 : Int) (x13 : List Int) (x14 : Int) (x15 : Int) : Option impl_weighs.B4 :=
  if (decide (x15 < x14)) = true then (if 0 ≤ x15 then (if x15 < (x13.length : Int) then (if (x5 == 0) = true then (some (.inl ((false, ()), (())))) else ((impl_sign.f k  (rd x13 x15)).bind fun t2 => if (t2 != x5) = true then (some (.inl ((false, ()), (())))) else (if 0 ≤ x15 then (if x15 < (x1.length : Int) then (J x1 x5 (W (x6 + (W ((rd x13 x15) * (rd x1 x15))))) x13 x14 (W (x15 + 1))) else none) else none))) else none) else none) else (some (.inr ((x5, x6, ()), (()))))
noncomputable def impl_weighs.l4 (k : Nat)  : Nat → (List Int) → Int → Int → (List Int) → Int → Int → Option impl_weighs.B4
  | 0, _, _, _, _, _, _ => none
  | n + 1, x1, x5, x6, x13, x14, x15 => impl_weighs.s4 k (impl_weighs.l4 k n) x1 x5 x6 x13 x14 x15
noncomputable def impl_weighs.f (k : Nat) (a0 : List Int) (a1 : List Int) : Option Bool :=
  if 0 ≤ 0 then (if 0 < (a0.length : Int) then ((impl_sign.f k  (rd a0 0)).bind fun t1 => (impl_weighs.l4 k k a1 t1 0 a0 (a0.length : Int) 0).bind fun | .inl r3 => (some r3.1.1) | .inr x4 => (some (decide ((W (x4.1.2.1 * x4.1.1)) ≤ 0)))) else none) else none
noncomputable def impl_weighs.e (k : Nat) : FE := { α := (List Int) × (List Int) × Unit, β := Bool, args := (lCons (aSl (.i .i64)) (lCons (aSl (.i .i64)) lNil)), ret := (rOne aB), f := fun p => impl_weighs.f k p.1 p.2.1 }
noncomputable def impl_weighs.c (k : Nat) : List (Nat × CE) := [(127, .fn (impl_sign.e k))]
noncomputable def impl_weighs.bd : Code := match Try.f226.body with | some c => c | none => .skip
noncomputable def impl_weighs.e4 (k : Nat) : LE := { H := impl_weighs.H4, α := impl_weighs.A4, β := impl_weighs.B4, st := impl_weighs.Z4, xt := impl_weighs.X4, f := fun p => impl_weighs.l4 k k p.1.1 p.1.2.1 p.1.2.2.1 p.1.2.2.2.1 p.1.2.2.2.2.1 p.1.2.2.2.2.2.1 }
noncomputable def impl_weighs.g (k : Nat) : List (Nat × LE) := [(4, impl_weighs.e4 k)]
theorem impl_weighs.t4 (k : Nat) (I : S2 → Option impl_weighs.B4) (x1 : List Int) (x5 : Int) (x6 : Int) (x13 : List Int) (x14 : Int) (x15 : Int) : stepOf (mkCx Try.prog (impl_weighs.c k) (impl_weighs.g k) : Cx impl_weighs.B4) (loopAt impl_weighs.bd 0) impl_weighs.H4 impl_weighs.X4.dec I (impl_weighs.Z4.enc ((x1, x5, x6, x13, x14, x15, ()), (()))) = impl_weighs.s4 k (fun x1 x5 x6 x13 x14 x15 => I (impl_weighs.Z4.enc ((x1, x5, x6, x13, x14, x15, ()), (())))) x1 x5 x6 x13 x14 x15 := by kernel_rfl
theorem impl_weighs.i4 (k : Nat) : ∀ (n : Nat) (x1 : List Int) (x5 : Int) (x6 : Int) (x13 : List Int) (x14 : Int) (x15 : Int), iter (evCode (mkCx Try.prog (impl_weighs.c k) (impl_weighs.g k) : Cx impl_weighs.B4) (loopAt impl_weighs.bd 0)) impl_weighs.H4 impl_weighs.X4.dec n (impl_weighs.Z4.enc ((x1, x5, x6, x13, x14, x15, ()), (()))) = impl_weighs.l4 k n x1 x5 x6 x13 x14 x15
  | 0, _, _, _, _, _, _ => rfl
  | n + 1, x1, x5, x6, x13, x14, x15 => ((iter_step _ _ _ _ n _).trans (impl_weighs.t4 k _ x1 x5 x6 x13 x14 x15)).trans (congrArg (fun J => impl_weighs.s4 k J x1 x5 x6 x13 x14 x15) (funext fun x1 => funext fun x5 => funext fun x6 => funext fun x13 => funext fun x14 => funext fun x15 => impl_weighs.i4 k n x1 x5 x6 x13 x14 x15))
theorem impl_weighs.to4 (k : Nat) (hC : AllFun Try.prog (impl_weighs.c k)) : LoopTo Try.prog 41 (impl_weighs.e4 k) (loopAt impl_weighs.bd 0) := loop_to mixed hC (by kernel_rfl) (loops_all 0 (by kernel_rfl) fun i hi => absurd hi (Nat.not_lt_zero i)) fun a b h => ⟨k, (impl_weighs.i4 k k a.1.1 a.1.2.1 a.1.2.2.1 a.1.2.2.2.1 a.1.2.2.2.2.1 a.1.2.2.2.2.2.1).trans h⟩
theorem impl_weighs.link (k : Nat) (a0 : List Int) (a1 : List Int) : evFun (mkCx Try.prog (impl_weighs.c k) (impl_weighs.g k) : Cx Bool) Try.f226 ((impl_weighs.e k).args.enc (a0, a1, ())) (impl_weighs.e k).ret.dec = impl_weighs.f k a0 a1 := by kernel_rfl
theorem impl_weighs.ok1 (k : Nat) (hC : AllFun Try.prog (impl_weighs.c k)) : Fun Try.prog 226 (impl_weighs.e k).G := fun_ok mixed (body := impl_weighs.bd) Try.func226 (by kernel_rfl) (by kernel_rfl) (by kernel_rfl) hC (loops_all 1 (by kernel_rfl) fun i hi => by obtain rfl : i = 0 := Nat.lt_one_iff.1 hi; exact ⟨impl_weighs.e4 k, by kernel_rfl, impl_weighs.to4 k hC⟩) (impl_weighs.e k) (fun a => Nat.le_of_ble_eq_true (by kernel_rfl)) fun a b h => (impl_weighs.link k a.1 a.2.1).trans h
theorem impl_weighs.ok (k : Nat) : Fun Try.prog 226 (impl_weighs.e k).G := impl_weighs.ok1 k ⟨impl_sign.ok k, trivial⟩

noncomputable def impl_clash3.f (k : Nat) (a0 : S4) (a1 : S4) (a2 : S4) : Option Bool :=
  (impl_normal.f k  a0).bind fun t1 => (impl_normal.f k  a1).bind fun t2 => (impl_normal.f k  a2).bind fun t3 => (impl_det.f k  t1 t2 t3).bind fun t4 => if (t4 != 0) = true then (some false) else ((impl_crossOf.f k  t1 t2).bind fun t5 => (impl_crossOf.f k  t2 t3).bind fun t6 => (impl_dot.f k  t6 t5).bind fun t7 => (impl_crossOf.f k  t3 t1).bind fun t8 => (impl_dot.f k  t8 t5).bind fun t9 => (impl_dot.f k  t5 t5).bind fun t10 => (impl_weighs.f k  ([t7, t9, t10] : List Int) ([a0.d, a1.d, a2.d] : List Int)).bind fun t11 => some t11)
noncomputable def impl_clash3.e (k : Nat) : FE := { α := S4 × S4 × S4 × Unit, β := Bool, args := (lCons aS4 (lCons aS4 (lCons aS4 lNil))), ret := (rOne aB), f := fun p => impl_clash3.f k p.1 p.2.1 p.2.2.1 }
noncomputable def impl_clash3.c (k : Nat) : List (Nat × CE) := [(134, .fn (impl_normal.e k)), (140, .fn (impl_det.e k)), (133, .fn (impl_crossOf.e k)), (192, .fn (impl_dot.e k)), (226, .fn (impl_weighs.e k))]
noncomputable def impl_clash3.bd : Code := match Try.f206.body with | some c => c | none => .skip
noncomputable def impl_clash3.g (k : Nat) : List (Nat × LE) := []
theorem impl_clash3.link (k : Nat) (a0 : S4) (a1 : S4) (a2 : S4) : evFun (mkCx Try.prog (impl_clash3.c k) (impl_clash3.g k) : Cx Bool) Try.f206 ((impl_clash3.e k).args.enc (a0, a1, a2, ())) (impl_clash3.e k).ret.dec = impl_clash3.f k a0 a1 a2 := by kernel_rfl
theorem impl_clash3.ok1 (k : Nat) (hC : AllFun Try.prog (impl_clash3.c k)) : Fun Try.prog 206 (impl_clash3.e k).G := fun_ok mixed (body := impl_clash3.bd) Try.func206 (by kernel_rfl) (by kernel_rfl) (by kernel_rfl) hC (loops_all 0 (by kernel_rfl) fun i hi => absurd hi (Nat.not_lt_zero i)) (impl_clash3.e k) (fun a => Nat.le_of_ble_eq_true (by kernel_rfl)) fun a b h => (impl_clash3.link k a.1 a.2.1 a.2.2.1).trans h
theorem impl_clash3.ok (k : Nat) : Fun Try.prog 206 (impl_clash3.e k).G := impl_clash3.ok1 k ⟨impl_normal.ok k, impl_det.ok k, impl_crossOf.ok k, impl_dot.ok k, impl_weighs.ok k, trivial⟩

noncomputable def impl_det3.f (k : Nat) (a0 : S4) (a1 : S4) (a2 : S4) : Option Int :=
  (impl_normal.f k  a0).bind fun t1 => (impl_normal.f k  a1).bind fun t2 => (impl_normal.f k  a2).bind fun t3 => (impl_det.f k  t1 t2 t3).bind fun t4 => some t4
noncomputable def impl_det3.e (k : Nat) : FE := { α := S4 × S4 × S4 × Unit, β := Int, args := (lCons aS4 (lCons aS4 (lCons aS4 lNil))), ret := (rOne (aI .i64)), f := fun p => impl_det3.f k p.1 p.2.1 p.2.2.1 }
noncomputable def impl_det3.c (k : Nat) : List (Nat × CE) := [(134, .fn (impl_normal.e k)), (140, .fn (impl_det.e k))]
noncomputable def impl_det3.bd : Code := match Try.f132.body with | some c => c | none => .skip
noncomputable def impl_det3.g (k : Nat) : List (Nat × LE) := []
theorem impl_det3.link (k : Nat) (a0 : S4) (a1 : S4) (a2 : S4) : evFun (mkCx Try.prog (impl_det3.c k) (impl_det3.g k) : Cx Int) Try.f132 ((impl_det3.e k).args.enc (a0, a1, a2, ())) (impl_det3.e k).ret.dec = impl_det3.f k a0 a1 a2 := by kernel_rfl
theorem impl_det3.ok1 (k : Nat) (hC : AllFun Try.prog (impl_det3.c k)) : Fun Try.prog 132 (impl_det3.e k).G := fun_ok mixed (body := impl_det3.bd) Try.func132 (by kernel_rfl) (by kernel_rfl) (by kernel_rfl) hC (loops_all 0 (by kernel_rfl) fun i hi => absurd hi (Nat.not_lt_zero i)) (impl_det3.e k) (fun a => Nat.le_of_ble_eq_true (by kernel_rfl)) fun a b h => (impl_det3.link k a.1 a.2.1 a.2.2.1).trans h
theorem impl_det3.ok (k : Nat) : Fun Try.prog 132 (impl_det3.e k).G := impl_det3.ok1 k ⟨impl_normal.ok k, impl_det.ok k, trivial⟩

noncomputable def impl_clash4.f (k : Nat) (a0 : S4) (a1 : S4) (a2 : S4) (a3 : S4) : Option Bool :=
  (impl_det3.f k  a1 a2 a3).bind fun t1 => (impl_det3.f k  a0 a2 a3).bind fun t2 => (impl_det3.f k  a0 a1 a3).bind fun t3 => (impl_det3.f k  a0 a1 a2).bind fun t4 => (impl_weighs.f k  ([t1, (W (0 - t2)), t3, (W (0 - t4))] : List Int) ([a0.d, a1.d, a2.d, a3.d] : List Int)).bind fun t5 => some t5
noncomputable def impl_clash4.e (k : Nat) : FE := { α := S4 × S4 × S4 × S4 × Unit, β := Bool, args := (lCons aS4 (lCons aS4 (lCons aS4 (lCons aS4 lNil)))), ret := (rOne aB), f := fun p => impl_clash4.f k p.1 p.2.1 p.2.2.1 p.2.2.2.1 }
noncomputable def impl_clash4.c (k : Nat) : List (Nat × CE) := [(132, .fn (impl_det3.e k)), (226, .fn (impl_weighs.e k))]
noncomputable def impl_clash4.bd : Code := match Try.f207.body with | some c => c | none => .skip
noncomputable def impl_clash4.g (k : Nat) : List (Nat × LE) := []
theorem impl_clash4.link (k : Nat) (a0 : S4) (a1 : S4) (a2 : S4) (a3 : S4) : evFun (mkCx Try.prog (impl_clash4.c k) (impl_clash4.g k) : Cx Bool) Try.f207 ((impl_clash4.e k).args.enc (a0, a1, a2, a3, ())) (impl_clash4.e k).ret.dec = impl_clash4.f k a0 a1 a2 a3 := by kernel_rfl
theorem impl_clash4.ok1 (k : Nat) (hC : AllFun Try.prog (impl_clash4.c k)) : Fun Try.prog 207 (impl_clash4.e k).G := fun_ok mixed (body := impl_clash4.bd) Try.func207 (by kernel_rfl) (by kernel_rfl) (by kernel_rfl) hC (loops_all 0 (by kernel_rfl) fun i hi => absurd hi (Nat.not_lt_zero i)) (impl_clash4.e k) (fun a => Nat.le_of_ble_eq_true (by kernel_rfl)) fun a b h => (impl_clash4.link k a.1 a.2.1 a.2.2.1 a.2.2.2.1).trans h
theorem impl_clash4.ok (k : Nat) : Fun Try.prog 207 (impl_clash4.e k).G := impl_clash4.ok1 k ⟨impl_det3.ok k, impl_weighs.ok k, trivial⟩

noncomputable def impl_room.H12 : Hd := ⟨[], [0, 3, 6, 8, 11, 12, 13, 23, 24, 25, 36, 37, 38], [3, 6, 8], [], []⟩
@[reducible] def impl_room.A12 : Type := (((List S4) × Unit × Unit × Unit × (List S4) × Int × Int × (List S4) × Int × Int × (List S4) × Int × Int × Unit) × (S4 × S4 × S4 × Unit))
noncomputable def impl_room.Z12 : SC impl_room.A12 := sC impl_room.H12 (eCons 0 (tP (aSl .s4)) (eCons 3 (tRef 3 0) (eCons 6 (tRef 6 0) (eCons 8 (tRef 8 0) (eCons 11 (tP (aSl .s4)) (eCons 12 (tP (aI .i64)) (eCons 13 (tP (aI .i64)) (eCons 23 (tP (aSl .s4)) (eCons 24 (tP (aI .i64)) (eCons 25 (tP (aI .i64)) (eCons 36 (tP (aSl .s4)) (eCons 37 (tP (aI .i64)) (eCons 38 (tP (aI .i64)) eNil))))))))))))) (bCons 3 (xVr cS4) (bCons 6 (xVr cS4) (bCons 8 (xVr cS4) bNil)))
@[reducible] def impl_room.B12 : Type := ((Bool × Unit) × (Unit)) ⊕ (((List S4) × Unit × Unit × (List S4) × Int × Int × (List S4) × Int × Int × Unit) × (S4 × S4 × Unit))
noncomputable def impl_room.X12 : XC impl_room.B12 := xOr (xRet (sC ⟨[], [4], [], [], []⟩ (eCons 4 (tP aB) eNil) bNil)) (xExit 4 (sC ⟨[], [0, 3, 6, 11, 12, 13, 23, 24, 25], [3, 6], [], []⟩ (eCons 0 (tP (aSl .s4)) (eCons 3 (tRef 3 0) (eCons 6 (tRef 6 0) (eCons 11 (tP (aSl .s4)) (eCons 12 (tP (aI .i64)) (eCons 13 (tP (aI .i64)) (eCons 23 (tP (aSl .s4)) (eCons 24 (tP (aI .i64)) (eCons 25 (tP (aI .i64)) eNil))))))))) (bCons 3 (xVr cS4) (bCons 6 (xVr cS4) bNil))))
noncomputable def impl_room.s12 (k : Nat)  (J : (List S4) → (List S4) → Int → Int → (List S4) → Int → Int → (List S4) → Int → Int → S4 → S4 → S4 → Option impl_room.B12) (x0 : List S4) (x11 : List S4) (x12 : Int) (x13 : Int) (x23 : List S4) (x24 : Int) (x25 : Int) (x36 : List S4) (x37 : Int) (x38 : Int) (b3 : S4) (b6 : S4) (b8 : S4) : Option impl_room.B12 :=
  if (decide (x38 < x37)) = true then (if 0 ≤ x38 then (if x38 < (x36.length : Int) then ((impl_clash4.f k  (rd x36 x38) b8 b6 b3).bind fun t3 => if t3 = true then (some (.inl ((false, ()), (())))) else (J x0 x11 x12 x13 x23 x24 x25 x36 x37 (W (x38 + 1)) b3 b6 b8)) else none) else none) else (some (.inr ((x0, (), (), x11, x12, x13, x23, x24, x25, ()), (b3, b6, ()))))
noncomputable def impl_room.l12 (k : Nat)  : Nat → (List S4) → (List S4) → Int → Int → (List S4) → Int → Int → (List S4) → Int → Int → S4 → S4 → S4 → Option impl_room.B12
  | 0, _, _, _, _, _, _, _, _, _, _, _, _, _ => none
  | n + 1, x0, x11, x12, x13, x23, x24, x25, x36, x37, x38, b3, b6, b8 => impl_room.s12 k (impl_room.l12 k n) x0 x11 x12 x13 x23 x24 x25 x36 x37 x38 b3 b6 b8
noncomputable def impl_room.H7 : Hd := ⟨[], [0, 3, 6, 11, 12, 13, 23, 24, 25], [3, 6], [], []⟩
@[reducible] def impl_room.A7 : Type := (((List S4) × Unit × Unit × (List S4) × Int × Int × (List S4) × Int × Int × Unit) × (S4 × S4 × Unit))
noncomputable def impl_room.Z7 : SC impl_room.A7 := sC impl_room.H7 (eCons 0 (tP (aSl .s4)) (eCons 3 (tRef 3 0) (eCons 6 (tRef 6 0) (eCons 11 (tP (aSl .s4)) (eCons 12 (tP (aI .i64)) (eCons 13 (tP (aI .i64)) (eCons 23 (tP (aSl .s4)) (eCons 24 (tP (aI .i64)) (eCons 25 (tP (aI .i64)) eNil))))))))) (bCons 3 (xVr cS4) (bCons 6 (xVr cS4) bNil))
@[reducible] def impl_room.B7 : Type := ((Bool × Unit) × (Unit)) ⊕ (((List S4) × Unit × (List S4) × Int × Int × Unit) × (S4 × Unit))
noncomputable def impl_room.X7 : XC impl_room.B7 := xOr (xRet (sC ⟨[], [4], [], [], []⟩ (eCons 4 (tP aB) eNil) bNil)) (xExit 2 (sC ⟨[], [0, 3, 11, 12, 13], [3], [], []⟩ (eCons 0 (tP (aSl .s4)) (eCons 3 (tRef 3 0) (eCons 11 (tP (aSl .s4)) (eCons 12 (tP (aI .i64)) (eCons 13 (tP (aI .i64)) eNil))))) (bCons 3 (xVr cS4) bNil)))
noncomputable def impl_room.s7 (k : Nat)  (J : (List S4) → (List S4) → Int → Int → (List S4) → Int → Int → S4 → S4 → Option impl_room.B7) (x0 : List S4) (x11 : List S4) (x12 : Int) (x13 : Int) (x23 : List S4) (x24 : Int) (x25 : Int) (b3 : S4) (b6 : S4) : Option impl_room.B7 :=
  if (decide (x25 < x24)) = true then (if 0 ≤ x25 then (if x25 < (x23.length : Int) then ((impl_clash3.f k  (rd x23 x25) b6 b3).bind fun t2 => if t2 = true then (some (.inl ((false, ()), (())))) else (if 0 ≤ x25 then (if x25 ≤ (x0.length : Int) then ((impl_room.l12 k k x0 x11 x12 x13 x23 x24 x25 (x0.take x25.toNat) ((x0.take x25.toNat).length : Int) 0 b3 b6 (rd x23 x25)).bind fun | .inl r4 => (some (.inl ((r4.1.1, ()), (())))) | .inr x5 => (J x5.1.1 x5.1.2.2.2.1 x5.1.2.2.2.2.1 x5.1.2.2.2.2.2.1 x5.1.2.2.2.2.2.2.1 x5.1.2.2.2.2.2.2.2.1 (W (x5.1.2.2.2.2.2.2.2.2.1 + 1)) x5.2.1 x5.2.2.1)) else none) else none)) else none) else none) else (some (.inr ((x0, (), x11, x12, x13, ()), (b3, ()))))
noncomputable def impl_room.l7 (k : Nat)  : Nat → (List S4) → (List S4) → Int → Int → (List S4) → Int → Int → S4 → S4 → Option impl_room.B7
  | 0, _, _, _, _, _, _, _, _, _ => none
  | n + 1, x0, x11, x12, x13, x23, x24, x25, b3, b6 => impl_room.s7 k (impl_room.l7 k n) x0 x11 x12 x13 x23 x24 x25 b3 b6
noncomputable def impl_room.H2 : Hd := ⟨[], [0, 3, 11, 12, 13], [3], [], []⟩
@[reducible] def impl_room.A2 : Type := (((List S4) × Unit × (List S4) × Int × Int × Unit) × (S4 × Unit))
noncomputable def impl_room.Z2 : SC impl_room.A2 := sC impl_room.H2 (eCons 0 (tP (aSl .s4)) (eCons 3 (tRef 3 0) (eCons 11 (tP (aSl .s4)) (eCons 12 (tP (aI .i64)) (eCons 13 (tP (aI .i64)) eNil))))) (bCons 3 (xVr cS4) bNil)
@[reducible] def impl_room.B2 : Type := ((Bool × Unit) × (Unit)) ⊕ ((Unit) × (Unit))
noncomputable def impl_room.X2 : XC impl_room.B2 := xOr (xRet (sC ⟨[], [4], [], [], []⟩ (eCons 4 (tP aB) eNil) bNil)) (xExit 0 (sC ⟨[], [], [], [], []⟩ eNil bNil))
noncomputable def impl_room.s2 (k : Nat)  (J : (List S4) → (List S4) → Int → Int → S4 → Option impl_room.B2) (x0 : List S4) (x11 : List S4) (x12 : Int) (x13 : Int) (b3 : S4) : Option impl_room.B2 :=
  if (decide (x13 < x12)) = true then (if 0 ≤ x13 then (if x13 < (x11.length : Int) then ((impl_clash2.f k  (rd x11 x13) b3).bind fun t1 => if t1 = true then (some (.inl ((false, ()), (())))) else (if 0 ≤ x13 then (if x13 ≤ (x0.length : Int) then ((impl_room.l7 k k x0 x11 x12 x13 (x0.take x13.toNat) ((x0.take x13.toNat).length : Int) 0 b3 (rd x11 x13)).bind fun | .inl r6 => (some (.inl ((r6.1.1, ()), (())))) | .inr x7 => (J x7.1.1 x7.1.2.2.1 x7.1.2.2.2.1 (W (x7.1.2.2.2.2.1 + 1)) x7.2.1)) else none) else none)) else none) else none) else (some (.inr ((()), (()))))
noncomputable def impl_room.l2 (k : Nat)  : Nat → (List S4) → (List S4) → Int → Int → S4 → Option impl_room.B2
  | 0, _, _, _, _, _ => none
  | n + 1, x0, x11, x12, x13, b3 => impl_room.s2 k (impl_room.l2 k n) x0 x11 x12 x13 b3
noncomputable def impl_room.f (k : Nat) (a0 : List S4) (a1 : S4) : Option Bool :=
  (impl_room.l2 k k a0 a0 (a0.length : Int) 0 a1).bind fun | .inl r8 => (some r8.1.1) | .inr x9 => (some true)
noncomputable def impl_room.e (k : Nat) : FE := { α := (List S4) × S4 × Unit, β := Bool, args := (lCons (aSl .s4) (lCons aS4 lNil)), ret := (rOne aB), f := fun p => impl_room.f k p.1 p.2.1 }
noncomputable def impl_room.c (k : Nat) : List (Nat × CE) := [(205, .fn (impl_clash2.e k)), (206, .fn (impl_clash3.e k)), (207, .fn (impl_clash4.e k))]
noncomputable def impl_room.bd : Code := match Try.f165.body with | some c => c | none => .skip
noncomputable def impl_room.e12 (k : Nat) : LE := { H := impl_room.H12, α := impl_room.A12, β := impl_room.B12, st := impl_room.Z12, xt := impl_room.X12, f := fun p => impl_room.l12 k k p.1.1 p.1.2.2.2.2.1 p.1.2.2.2.2.2.1 p.1.2.2.2.2.2.2.1 p.1.2.2.2.2.2.2.2.1 p.1.2.2.2.2.2.2.2.2.1 p.1.2.2.2.2.2.2.2.2.2.1 p.1.2.2.2.2.2.2.2.2.2.2.1 p.1.2.2.2.2.2.2.2.2.2.2.2.1 p.1.2.2.2.2.2.2.2.2.2.2.2.2.1 p.2.1 p.2.2.1 p.2.2.2.1 }
noncomputable def impl_room.e7 (k : Nat) : LE := { H := impl_room.H7, α := impl_room.A7, β := impl_room.B7, st := impl_room.Z7, xt := impl_room.X7, f := fun p => impl_room.l7 k k p.1.1 p.1.2.2.2.1 p.1.2.2.2.2.1 p.1.2.2.2.2.2.1 p.1.2.2.2.2.2.2.1 p.1.2.2.2.2.2.2.2.1 p.1.2.2.2.2.2.2.2.2.1 p.2.1 p.2.2.1 }
noncomputable def impl_room.e2 (k : Nat) : LE := { H := impl_room.H2, α := impl_room.A2, β := impl_room.B2, st := impl_room.Z2, xt := impl_room.X2, f := fun p => impl_room.l2 k k p.1.1 p.1.2.2.1 p.1.2.2.2.1 p.1.2.2.2.2.1 p.2.1 }
noncomputable def impl_room.g (k : Nat) : List (Nat × LE) := [(12, impl_room.e12 k), (7, impl_room.e7 k), (2, impl_room.e2 k)]
theorem impl_room.t12 (k : Nat) (I : S2 → Option impl_room.B12) (x0 : List S4) (x11 : List S4) (x12 : Int) (x13 : Int) (x23 : List S4) (x24 : Int) (x25 : Int) (x36 : List S4) (x37 : Int) (x38 : Int) (b3 : S4) (b6 : S4) (b8 : S4) : stepOf (mkCx Try.prog (impl_room.c k) (impl_room.g k) : Cx impl_room.B12) (loopAt (loopAt (loopAt impl_room.bd 0) 0) 0) impl_room.H12 impl_room.X12.dec I (impl_room.Z12.enc ((x0, (), (), (), x11, x12, x13, x23, x24, x25, x36, x37, x38, ()), (b3, b6, b8, ()))) = impl_room.s12 k (fun x0 x11 x12 x13 x23 x24 x25 x36 x37 x38 b3 b6 b8 => I (impl_room.Z12.enc ((x0, (), (), (), x11, x12, x13, x23, x24, x25, x36, x37, x38, ()), (b3, b6, b8, ())))) x0 x11 x12 x13 x23 x24 x25 x36 x37 x38 b3 b6 b8 := by kernel_rfl
theorem impl_room.i12 (k : Nat) : ∀ (n : Nat) (x0 : List S4) (x11 : List S4) (x12 : Int) (x13 : Int) (x23 : List S4) (x24 : Int) (x25 : Int) (x36 : List S4) (x37 : Int) (x38 : Int) (b3 : S4) (b6 : S4) (b8 : S4), iter (evCode (mkCx Try.prog (impl_room.c k) (impl_room.g k) : Cx impl_room.B12) (loopAt (loopAt (loopAt impl_room.bd 0) 0) 0)) impl_room.H12 impl_room.X12.dec n (impl_room.Z12.enc ((x0, (), (), (), x11, x12, x13, x23, x24, x25, x36, x37, x38, ()), (b3, b6, b8, ()))) = impl_room.l12 k n x0 x11 x12 x13 x23 x24 x25 x36 x37 x38 b3 b6 b8
  | 0, _, _, _, _, _, _, _, _, _, _, _, _, _ => rfl
  | n + 1, x0, x11, x12, x13, x23, x24, x25, x36, x37, x38, b3, b6, b8 => ((iter_step _ _ _ _ n _).trans (impl_room.t12 k _ x0 x11 x12 x13 x23 x24 x25 x36 x37 x38 b3 b6 b8)).trans (congrArg (fun J => impl_room.s12 k J x0 x11 x12 x13 x23 x24 x25 x36 x37 x38 b3 b6 b8) (funext fun x0 => funext fun x11 => funext fun x12 => funext fun x13 => funext fun x23 => funext fun x24 => funext fun x25 => funext fun x36 => funext fun x37 => funext fun x38 => funext fun b3 => funext fun b6 => funext fun b8 => impl_room.i12 k n x0 x11 x12 x13 x23 x24 x25 x36 x37 x38 b3 b6 b8))
theorem impl_room.t7 (k : Nat) (I : S2 → Option impl_room.B7) (x0 : List S4) (x11 : List S4) (x12 : Int) (x13 : Int) (x23 : List S4) (x24 : Int) (x25 : Int) (b3 : S4) (b6 : S4) : stepOf (mkCx Try.prog (impl_room.c k) (impl_room.g k) : Cx impl_room.B7) (loopAt (loopAt impl_room.bd 0) 0) impl_room.H7 impl_room.X7.dec I (impl_room.Z7.enc ((x0, (), (), x11, x12, x13, x23, x24, x25, ()), (b3, b6, ()))) = impl_room.s7 k (fun x0 x11 x12 x13 x23 x24 x25 b3 b6 => I (impl_room.Z7.enc ((x0, (), (), x11, x12, x13, x23, x24, x25, ()), (b3, b6, ())))) x0 x11 x12 x13 x23 x24 x25 b3 b6 := by kernel_rfl
theorem impl_room.i7 (k : Nat) : ∀ (n : Nat) (x0 : List S4) (x11 : List S4) (x12 : Int) (x13 : Int) (x23 : List S4) (x24 : Int) (x25 : Int) (b3 : S4) (b6 : S4), iter (evCode (mkCx Try.prog (impl_room.c k) (impl_room.g k) : Cx impl_room.B7) (loopAt (loopAt impl_room.bd 0) 0)) impl_room.H7 impl_room.X7.dec n (impl_room.Z7.enc ((x0, (), (), x11, x12, x13, x23, x24, x25, ()), (b3, b6, ()))) = impl_room.l7 k n x0 x11 x12 x13 x23 x24 x25 b3 b6
  | 0, _, _, _, _, _, _, _, _, _ => rfl
  | n + 1, x0, x11, x12, x13, x23, x24, x25, b3, b6 => ((iter_step _ _ _ _ n _).trans (impl_room.t7 k _ x0 x11 x12 x13 x23 x24 x25 b3 b6)).trans (congrArg (fun J => impl_room.s7 k J x0 x11 x12 x13 x23 x24 x25 b3 b6) (funext fun x0 => funext fun x11 => funext fun x12 => funext fun x13 => funext fun x23 => funext fun x24 => funext fun x25 => funext fun b3 => funext fun b6 => impl_room.i7 k n x0 x11 x12 x13 x23 x24 x25 b3 b6))
theorem impl_room.t2 (k : Nat) (I : S2 → Option impl_room.B2) (x0 : List S4) (x11 : List S4) (x12 : Int) (x13 : Int) (b3 : S4) : stepOf (mkCx Try.prog (impl_room.c k) (impl_room.g k) : Cx impl_room.B2) (loopAt impl_room.bd 0) impl_room.H2 impl_room.X2.dec I (impl_room.Z2.enc ((x0, (), x11, x12, x13, ()), (b3, ()))) = impl_room.s2 k (fun x0 x11 x12 x13 b3 => I (impl_room.Z2.enc ((x0, (), x11, x12, x13, ()), (b3, ())))) x0 x11 x12 x13 b3 := by kernel_rfl
theorem impl_room.i2 (k : Nat) : ∀ (n : Nat) (x0 : List S4) (x11 : List S4) (x12 : Int) (x13 : Int) (b3 : S4), iter (evCode (mkCx Try.prog (impl_room.c k) (impl_room.g k) : Cx impl_room.B2) (loopAt impl_room.bd 0)) impl_room.H2 impl_room.X2.dec n (impl_room.Z2.enc ((x0, (), x11, x12, x13, ()), (b3, ()))) = impl_room.l2 k n x0 x11 x12 x13 b3
  | 0, _, _, _, _, _ => rfl
  | n + 1, x0, x11, x12, x13, b3 => ((iter_step _ _ _ _ n _).trans (impl_room.t2 k _ x0 x11 x12 x13 b3)).trans (congrArg (fun J => impl_room.s2 k J x0 x11 x12 x13 b3) (funext fun x0 => funext fun x11 => funext fun x12 => funext fun x13 => funext fun b3 => impl_room.i2 k n x0 x11 x12 x13 b3))
theorem impl_room.to12 (k : Nat) (hC : AllFun Try.prog (impl_room.c k)) : LoopTo Try.prog 50 (impl_room.e12 k) (loopAt (loopAt (loopAt impl_room.bd 0) 0) 0) := loop_to mixed hC (by kernel_rfl) (loops_all 0 (by kernel_rfl) fun i hi => absurd hi (Nat.not_lt_zero i)) fun a b h => ⟨k, (impl_room.i12 k k a.1.1 a.1.2.2.2.2.1 a.1.2.2.2.2.2.1 a.1.2.2.2.2.2.2.1 a.1.2.2.2.2.2.2.2.1 a.1.2.2.2.2.2.2.2.2.1 a.1.2.2.2.2.2.2.2.2.2.1 a.1.2.2.2.2.2.2.2.2.2.2.1 a.1.2.2.2.2.2.2.2.2.2.2.2.1 a.1.2.2.2.2.2.2.2.2.2.2.2.2.1 a.2.1 a.2.2.1 a.2.2.2.1).trans h⟩
theorem impl_room.to7 (k : Nat) (hC : AllFun Try.prog (impl_room.c k)) : LoopTo Try.prog 50 (impl_room.e7 k) (loopAt (loopAt impl_room.bd 0) 0) := loop_to mixed hC (by kernel_rfl) (loops_all 1 (by kernel_rfl) fun i hi => by obtain rfl : i = 0 := Nat.lt_one_iff.1 hi; exact ⟨impl_room.e12 k, by kernel_rfl, impl_room.to12 k hC⟩) fun a b h => ⟨k, (impl_room.i7 k k a.1.1 a.1.2.2.2.1 a.1.2.2.2.2.1 a.1.2.2.2.2.2.1 a.1.2.2.2.2.2.2.1 a.1.2.2.2.2.2.2.2.1 a.1.2.2.2.2.2.2.2.2.1 a.2.1 a.2.2.1).trans h⟩
theorem impl_room.to2 (k : Nat) (hC : AllFun Try.prog (impl_room.c k)) : LoopTo Try.prog 50 (impl_room.e2 k) (loopAt impl_room.bd 0) := loop_to mixed hC (by kernel_rfl) (loops_all 1 (by kernel_rfl) fun i hi => by obtain rfl : i = 0 := Nat.lt_one_iff.1 hi; exact ⟨impl_room.e7 k, by kernel_rfl, impl_room.to7 k hC⟩) fun a b h => ⟨k, (impl_room.i2 k k a.1.1 a.1.2.2.1 a.1.2.2.2.1 a.1.2.2.2.2.1 a.2.1).trans h⟩
theorem impl_room.link (k : Nat) (a0 : List S4) (a1 : S4) : evFun (mkCx Try.prog (impl_room.c k) (impl_room.g k) : Cx Bool) Try.f165 ((impl_room.e k).args.enc (a0, a1, ())) (impl_room.e k).ret.dec = impl_room.f k a0 a1 := by kernel_rfl
theorem impl_room.ok1 (k : Nat) (hC : AllFun Try.prog (impl_room.c k)) : Fun Try.prog 165 (impl_room.e k).G := fun_ok mixed (body := impl_room.bd) Try.func165 (by kernel_rfl) (by kernel_rfl) (by kernel_rfl) hC (loops_all 1 (by kernel_rfl) fun i hi => by obtain rfl : i = 0 := Nat.lt_one_iff.1 hi; exact ⟨impl_room.e2 k, by kernel_rfl, impl_room.to2 k hC⟩) (impl_room.e k) (fun a => Nat.le_of_ble_eq_true (by kernel_rfl)) fun a b h => (impl_room.link k a.1 a.2.1).trans h
theorem impl_room.ok (k : Nat) : Fun Try.prog 165 (impl_room.e k).G := impl_room.ok1 k ⟨impl_clash2.ok k, impl_clash3.ok k, impl_clash4.ok k, trivial⟩

noncomputable def impl_open.H2 : Hd := ⟨[], [0, 5, 6, 7], [], [], []⟩
@[reducible] def impl_open.A2 : Type := (((List S4) × (List S4) × Int × Int × Unit) × (Unit))
noncomputable def impl_open.Z2 : SC impl_open.A2 := sC impl_open.H2 (eCons 0 (tP (aSl .s4)) (eCons 5 (tP (aSl .s4)) (eCons 6 (tP (aI .i64)) (eCons 7 (tP (aI .i64)) eNil)))) bNil
@[reducible] def impl_open.B2 : Type := ((Bool × Unit) × (Unit)) ⊕ ((Unit) × (Unit))
noncomputable def impl_open.X2 : XC impl_open.B2 := xOr (xRet (sC ⟨[], [2], [], [], []⟩ (eCons 2 (tP aB) eNil) bNil)) (xExit 0 (sC ⟨[], [], [], [], []⟩ eNil bNil))
noncomputable def impl_open.s2 (k : Nat)  (J : (List S4) → (List S4) → Int → Int → Option impl_open.B2) (x0 : List S4) (x5 : List S4) (x6 : Int) (x7 : Int) : Option impl_open.B2 :=
  if (decide (x7 < x6)) = true then (if 0 ≤ x7 then (if x7 < (x5.length : Int) then (if 0 ≤ x7 then (if x7 ≤ (x0.length : Int) then ((impl_room.f k  (x0.take x7.toNat) (rd x5 x7)).bind fun t1 => if (!t1) = true then (some (.inl ((false, ()), (())))) else (J x0 x5 x6 (W (x7 + 1)))) else none) else none) else none) else none) else (some (.inr ((()), (()))))
noncomputable def impl_open.l2 (k : Nat)  : Nat → (List S4) → (List S4) → Int → Int → Option impl_open.B2
  | 0, _, _, _, _ => none
  | n + 1, x0, x5, x6, x7 => impl_open.s2 k (impl_open.l2 k n) x0 x5 x6 x7
noncomputable def impl_open.f (k : Nat) (a0 : List S4) : Option Bool :=
  (impl_open.l2 k k a0 a0 (a0.length : Int) 0).bind fun | .inl r2 => (some r2.1.1) | .inr x3 => (some true)
noncomputable def impl_open.e (k : Nat) : FE := { α := (List S4) × Unit, β := Bool, args := (lCons (aSl .s4) lNil), ret := (rOne aB), f := fun p => impl_open.f k p.1 }
noncomputable def impl_open.c (k : Nat) : List (Nat × CE) := [(165, .fn (impl_room.e k))]
noncomputable def impl_open.bd : Code := match Try.f98.body with | some c => c | none => .skip
noncomputable def impl_open.e2 (k : Nat) : LE := { H := impl_open.H2, α := impl_open.A2, β := impl_open.B2, st := impl_open.Z2, xt := impl_open.X2, f := fun p => impl_open.l2 k k p.1.1 p.1.2.1 p.1.2.2.1 p.1.2.2.2.1 }
noncomputable def impl_open.g (k : Nat) : List (Nat × LE) := [(2, impl_open.e2 k)]
theorem impl_open.t2 (k : Nat) (I : S2 → Option impl_open.B2) (x0 : List S4) (x5 : List S4) (x6 : Int) (x7 : Int) : stepOf (mkCx Try.prog (impl_open.c k) (impl_open.g k) : Cx impl_open.B2) (loopAt impl_open.bd 0) impl_open.H2 impl_open.X2.dec I (impl_open.Z2.enc ((x0, x5, x6, x7, ()), (()))) = impl_open.s2 k (fun x0 x5 x6 x7 => I (impl_open.Z2.enc ((x0, x5, x6, x7, ()), (())))) x0 x5 x6 x7 := by kernel_rfl
theorem impl_open.i2 (k : Nat) : ∀ (n : Nat) (x0 : List S4) (x5 : List S4) (x6 : Int) (x7 : Int), iter (evCode (mkCx Try.prog (impl_open.c k) (impl_open.g k) : Cx impl_open.B2) (loopAt impl_open.bd 0)) impl_open.H2 impl_open.X2.dec n (impl_open.Z2.enc ((x0, x5, x6, x7, ()), (()))) = impl_open.l2 k n x0 x5 x6 x7
  | 0, _, _, _, _ => rfl
  | n + 1, x0, x5, x6, x7 => ((iter_step _ _ _ _ n _).trans (impl_open.t2 k _ x0 x5 x6 x7)).trans (congrArg (fun J => impl_open.s2 k J x0 x5 x6 x7) (funext fun x0 => funext fun x5 => funext fun x6 => funext fun x7 => impl_open.i2 k n x0 x5 x6 x7))
theorem impl_open.to2 (k : Nat) (hC : AllFun Try.prog (impl_open.c k)) : LoopTo Try.prog 19 (impl_open.e2 k) (loopAt impl_open.bd 0) := loop_to mixed hC (by kernel_rfl) (loops_all 0 (by kernel_rfl) fun i hi => absurd hi (Nat.not_lt_zero i)) fun a b h => ⟨k, (impl_open.i2 k k a.1.1 a.1.2.1 a.1.2.2.1 a.1.2.2.2.1).trans h⟩
theorem impl_open.link (k : Nat) (a0 : List S4) : evFun (mkCx Try.prog (impl_open.c k) (impl_open.g k) : Cx Bool) Try.f98 ((impl_open.e k).args.enc (a0, ())) (impl_open.e k).ret.dec = impl_open.f k a0 := by kernel_rfl
theorem impl_open.ok1 (k : Nat) (hC : AllFun Try.prog (impl_open.c k)) : Fun Try.prog 98 (impl_open.e k).G := fun_ok mixed (body := impl_open.bd) Try.func98 (by kernel_rfl) (by kernel_rfl) (by kernel_rfl) hC (loops_all 1 (by kernel_rfl) fun i hi => by obtain rfl : i = 0 := Nat.lt_one_iff.1 hi; exact ⟨impl_open.e2 k, by kernel_rfl, impl_open.to2 k hC⟩) (impl_open.e k) (fun a => Nat.le_of_ble_eq_true (by kernel_rfl)) fun a b h => (impl_open.link k a.1).trans h
theorem impl_open.ok (k : Nat) : Fun Try.prog 98 (impl_open.e k).G := impl_open.ok1 k ⟨impl_room.ok k, trivial⟩

noncomputable def impl_flip.f (k : Nat) (a0 : S4) : Option S4 :=
  some (⟨(W (0 - a0.a)), (W (0 - a0.b)), (W (0 - a0.c)), (W (0 - a0.d))⟩ : S4)
noncomputable def impl_flip.e (k : Nat) : FE := { α := S4 × Unit, β := S4, args := (lCons aS4 lNil), ret := (rOne aS4), f := fun p => impl_flip.f k p.1 }
noncomputable def impl_flip.c (k : Nat) : List (Nat × CE) := []
noncomputable def impl_flip.bd : Code := match Try.f148.body with | some c => c | none => .skip
noncomputable def impl_flip.g (k : Nat) : List (Nat × LE) := []
theorem impl_flip.link (k : Nat) (a0 : S4) : evFun (mkCx Try.prog (impl_flip.c k) (impl_flip.g k) : Cx S4) Try.f148 ((impl_flip.e k).args.enc (a0, ())) (impl_flip.e k).ret.dec = impl_flip.f k a0 := by kernel_rfl
theorem impl_flip.ok1 (k : Nat) (hC : AllFun Try.prog (impl_flip.c k)) : Fun Try.prog 148 (impl_flip.e k).G := fun_ok mixed (body := impl_flip.bd) Try.func148 (by kernel_rfl) (by kernel_rfl) (by kernel_rfl) hC (loops_all 0 (by kernel_rfl) fun i hi => absurd hi (Nat.not_lt_zero i)) (impl_flip.e k) (fun a => Nat.le_of_ble_eq_true (by kernel_rfl)) fun a b h => (impl_flip.link k a.1).trans h
theorem impl_flip.ok (k : Nat) : Fun Try.prog 148 (impl_flip.e k).G := impl_flip.ok1 k trivial

noncomputable def impl_convex.H3 : Hd := ⟨[(3, 24, .s4)], [2, 3, 8, 9, 10], [2], [], []⟩
@[reducible] def impl_convex.A3 : Type := ((Unit × Unit × (List S4) × Int × Int × Unit) × (Tree × (List S4) × Unit))
noncomputable def impl_convex.Z3 : SC impl_convex.A3 := sC impl_convex.H3 (eCons 2 (tRef 2 0) (eCons 3 (tOsl 1000003) (eCons 8 (tP (aSl .s4)) (eCons 9 (tP (aI .i64)) (eCons 10 (tP (aI .i64)) eNil))))) (bCons 2 (xVr cTree) (bCons 1000003 (xRow 24 .s4) bNil))
@[reducible] def impl_convex.B3 : Type := ((Unit × Unit × Unit) × (Tree × (List S4) × Unit))
noncomputable def impl_convex.X3 : XC impl_convex.B3 := xExit 0 (sC ⟨[], [2, 3], [2], [], []⟩ (eCons 2 (tRef 2 0) (eCons 3 (tOsl 1000003) eNil)) (bCons 2 (xVr cTree) (bCons 1000003 (xRow 24 .s4) bNil)))
noncomputable def impl_convex.s3 (k : Nat)  (J : (List S4) → Int → Int → Tree → (List S4) → Option impl_convex.B3) (x8 : List S4) (x9 : Int) (x10 : Int) (b2 : Tree) (b1000003 : List S4) : Option impl_convex.B3 :=
  if (decide (x10 < x9)) = true then (if 0 ≤ x10 then (if x10 < (x8.length : Int) then ((impl_flip.f k  (rd x8 x10)).bind fun t1 => (impl_room.f k  b1000003 t1).bind fun t2 => if t2 = true then (if lt47 (b1000003.length + ([(rd x8 x10)] : List S4).length) = true then (J x8 x9 (W (x10 + 1)) (T1 b2) (b1000003 ++ ([(rd x8 x10)] : List S4))) else none) else (J x8 x9 (W (x10 + 1)) (T1 b2) b1000003)) else none) else none) else (some (((), (), ()), ((T1 b2), b1000003, ())))
noncomputable def impl_convex.l3 (k : Nat)  : Nat → (List S4) → Int → Int → Tree → (List S4) → Option impl_convex.B3
  | 0, _, _, _, _, _ => none
  | n + 1, x8, x9, x10, b2, b1000003 => impl_convex.s3 k (impl_convex.l3 k n) x8 x9 x10 b2 b1000003
noncomputable def impl_convex.H10 : Hd := ⟨[], [2, 3, 6, 7], [2, 6], [], []⟩
@[reducible] def impl_convex.A10 : Type := ((Unit × Unit × Unit × Int × Unit) × (Tree × ((Bool × S4)) × (List S4) × (List Tree) × Unit))
noncomputable def impl_convex.Z10 : SC impl_convex.A10 := sC impl_convex.H10 (eCons 2 (tRef 2 0) (eCons 3 (tOsl 1000003) (eCons 6 (tRef 6 0) (eCons 7 (tP (aI .i64)) eNil)))) (bCons 2 (xVr cTree) (bCons 6 (xVq 3000006) (bCons 1000003 (xRow 24 .s4) (bCons 3000006 xKids bNil))))
@[reducible] def impl_convex.B10 : Type := ((Unit × Unit × Unit) × (Tree × ((Bool × S4)) × (List Tree) × Unit))
noncomputable def impl_convex.X10 : XC impl_convex.B10 := xExit 2 (sC ⟨[], [2, 6], [2, 6], [], []⟩ (eCons 2 (tRef 2 0) (eCons 6 (tRef 6 0) eNil)) (bCons 2 (xVr cTree) (bCons 6 (xVq 3000006) (bCons 3000006 xKids bNil))))
noncomputable def impl_convex.s10 (k : Nat)  (J : Int → Tree → (Bool × S4) → (List S4) → (List Tree) → Option impl_convex.B10) (x7 : Int) (b2 : Tree) (b6 : (Bool × S4)) (b1000003 : List S4) (b3000006 : List Tree) : Option impl_convex.B10 :=
  if (decide (x7 ≥ 0)) = true then (if 0 ≤ x7 then (if x7 < (b1000003.length : Int) then (if x7.toNat < b1000003.length then ((impl_Leaf.f k  false).bind fun t5 => J (W (x7 - 1)) (T1 b2) (false, (b1000003.getD x7.toNat default)) b1000003 ([(Tree.mk b6.1 b6.2 b3000006), (T1 t5)] : List Tree)) else none) else none) else none) else (some (((), (), ()), ((T1 b2), b6, b3000006, ())))
noncomputable def impl_convex.l10 (k : Nat)  : Nat → Int → Tree → (Bool × S4) → (List S4) → (List Tree) → Option impl_convex.B10
  | 0, _, _, _, _, _ => none
  | n + 1, x7, b2, b6, b1000003, b3000006 => impl_convex.s10 k (impl_convex.l10 k n) x7 b2 b6 b1000003 b3000006
noncomputable def impl_convex.f (k : Nat) (a0 : List S4) : Option Tree :=
  (impl_convex.l3 k k a0 (a0.length : Int) 0 (Tree.mk false ⟨0, 0, 0, 0⟩ ([] : List Tree)) ([] : List S4)).bind fun x3 => (impl_Leaf.f k  true).bind fun t4 => (impl_convex.l10 k k (W ((x3.2.2.1.length : Int) - 1)) (T1 x3.2.1) (t4.inn, t4.p) x3.2.2.1 t4.kids).bind fun x6 => some (Tree.mk x6.2.2.1.1 x6.2.2.1.2 x6.2.2.2.1)
noncomputable def impl_convex.e (k : Nat) : FE := { α := (List S4) × Unit, β := Tree, args := (lCons (aSl .s4) lNil), ret := rSol, f := fun p => impl_convex.f k p.1 }
noncomputable def impl_convex.c (k : Nat) : List (Nat × CE) := [(148, .fn (impl_flip.e k)), (165, .fn (impl_room.e k)), (89, .fn (impl_Leaf.e k)), (88, .nd)]
noncomputable def impl_convex.bd : Code := match Try.f99.body with | some c => c | none => .skip
noncomputable def impl_convex.e3 (k : Nat) : LE := { H := impl_convex.H3, α := impl_convex.A3, β := impl_convex.B3, st := impl_convex.Z3, xt := impl_convex.X3, f := fun p => impl_convex.l3 k k p.1.2.2.1 p.1.2.2.2.1 p.1.2.2.2.2.1 p.2.1 p.2.2.1 }
noncomputable def impl_convex.e10 (k : Nat) : LE := { H := impl_convex.H10, α := impl_convex.A10, β := impl_convex.B10, st := impl_convex.Z10, xt := impl_convex.X10, f := fun p => impl_convex.l10 k k p.1.2.2.2.1 p.2.1 p.2.2.1 p.2.2.2.1 p.2.2.2.2.1 }
noncomputable def impl_convex.g (k : Nat) : List (Nat × LE) := [(3, impl_convex.e3 k), (10, impl_convex.e10 k)]
theorem impl_convex.t3 (k : Nat) (I : S2 → Option impl_convex.B3) (x8 : List S4) (x9 : Int) (x10 : Int) (b2 : Tree) (b1000003 : List S4) : stepOf (mkCx Try.prog (impl_convex.c k) (impl_convex.g k) : Cx impl_convex.B3) (loopAt impl_convex.bd 0) impl_convex.H3 impl_convex.X3.dec I (impl_convex.Z3.enc (((), (), x8, x9, x10, ()), (b2, b1000003, ()))) = impl_convex.s3 k (fun x8 x9 x10 b2 b1000003 => I (impl_convex.Z3.enc (((), (), x8, x9, x10, ()), (b2, b1000003, ())))) x8 x9 x10 b2 b1000003 := by kernel_rfl
theorem impl_convex.i3 (k : Nat) : ∀ (n : Nat) (x8 : List S4) (x9 : Int) (x10 : Int) (b2 : Tree) (b1000003 : List S4), iter (evCode (mkCx Try.prog (impl_convex.c k) (impl_convex.g k) : Cx impl_convex.B3) (loopAt impl_convex.bd 0)) impl_convex.H3 impl_convex.X3.dec n (impl_convex.Z3.enc (((), (), x8, x9, x10, ()), (b2, b1000003, ()))) = impl_convex.l3 k n x8 x9 x10 b2 b1000003
  | 0, _, _, _, _, _ => rfl
  | n + 1, x8, x9, x10, b2, b1000003 => ((iter_step _ _ _ _ n _).trans (impl_convex.t3 k _ x8 x9 x10 b2 b1000003)).trans (congrArg (fun J => impl_convex.s3 k J x8 x9 x10 b2 b1000003) (funext fun x8 => funext fun x9 => funext fun x10 => funext fun b2 => funext fun b1000003 => impl_convex.i3 k n x8 x9 x10 b2 b1000003))
theorem impl_convex.t10 (k : Nat) (I : S2 → Option impl_convex.B10) (x7 : Int) (b2 : Tree) (b6 : (Bool × S4)) (b1000003 : List S4) (b3000006 : List Tree) : stepOf (mkCx Try.prog (impl_convex.c k) (impl_convex.g k) : Cx impl_convex.B10) (loopAt impl_convex.bd 1) impl_convex.H10 impl_convex.X10.dec I (impl_convex.Z10.enc (((), (), (), x7, ()), (b2, b6, b1000003, b3000006, ()))) = impl_convex.s10 k (fun x7 b2 b6 b1000003 b3000006 => I (impl_convex.Z10.enc (((), (), (), x7, ()), (b2, b6, b1000003, b3000006, ())))) x7 b2 b6 b1000003 b3000006 := by kernel_rfl
theorem impl_convex.i10 (k : Nat) : ∀ (n : Nat) (x7 : Int) (b2 : Tree) (b6 : (Bool × S4)) (b1000003 : List S4) (b3000006 : List Tree), iter (evCode (mkCx Try.prog (impl_convex.c k) (impl_convex.g k) : Cx impl_convex.B10) (loopAt impl_convex.bd 1)) impl_convex.H10 impl_convex.X10.dec n (impl_convex.Z10.enc (((), (), (), x7, ()), (b2, b6, b1000003, b3000006, ()))) = impl_convex.l10 k n x7 b2 b6 b1000003 b3000006
  | 0, _, _, _, _, _ => rfl
  | n + 1, x7, b2, b6, b1000003, b3000006 => ((iter_step _ _ _ _ n _).trans (impl_convex.t10 k _ x7 b2 b6 b1000003 b3000006)).trans (congrArg (fun J => impl_convex.s10 k J x7 b2 b6 b1000003 b3000006) (funext fun x7 => funext fun b2 => funext fun b6 => funext fun b1000003 => funext fun b3000006 => impl_convex.i10 k n x7 b2 b6 b1000003 b3000006))
theorem impl_convex.to3 (k : Nat) (hC : AllFun Try.prog (impl_convex.c k)) : LoopTo Try.prog 39 (impl_convex.e3 k) (loopAt impl_convex.bd 0) := loop_to mixed hC (by kernel_rfl) (loops_all 0 (by kernel_rfl) fun i hi => absurd hi (Nat.not_lt_zero i)) fun a b h => ⟨k, (impl_convex.i3 k k a.1.2.2.1 a.1.2.2.2.1 a.1.2.2.2.2.1 a.2.1 a.2.2.1).trans h⟩
theorem impl_convex.to10 (k : Nat) (hC : AllFun Try.prog (impl_convex.c k)) : LoopTo Try.prog 39 (impl_convex.e10 k) (loopAt impl_convex.bd 1) := loop_to mixed hC (by kernel_rfl) (loops_all 0 (by kernel_rfl) fun i hi => absurd hi (Nat.not_lt_zero i)) fun a b h => ⟨k, (impl_convex.i10 k k a.1.2.2.2.1 a.2.1 a.2.2.1 a.2.2.2.1 a.2.2.2.2.1).trans h⟩
theorem impl_convex.link (k : Nat) (a0 : List S4) : evFun (mkCx Try.prog (impl_convex.c k) (impl_convex.g k) : Cx Tree) Try.f99 ((impl_convex.e k).args.enc (a0, ())) (impl_convex.e k).ret.dec = impl_convex.f k a0 := by kernel_rfl
theorem impl_convex.ok1 (k : Nat) (hC : AllFun Try.prog (impl_convex.c k)) : Fun Try.prog 99 (impl_convex.e k).G := fun_ok mixed (body := impl_convex.bd) Try.func99 (by kernel_rfl) (by kernel_rfl) (by kernel_rfl) hC (loops_all 2 (by kernel_rfl) fun i hi => match i, hi with | 0, _ => ⟨impl_convex.e3 k, by kernel_rfl, impl_convex.to3 k hC⟩ | 1, _ => ⟨impl_convex.e10 k, by kernel_rfl, impl_convex.to10 k hC⟩ | i + 2, hi => absurd hi (by omega)) (impl_convex.e k) (fun a => Nat.le_of_ble_eq_true (by kernel_rfl)) fun a b h => (impl_convex.link k a.1).trans h
theorem impl_convex.ok (k : Nat) : Fun Try.prog 99 (impl_convex.e k).G := impl_convex.ok1 k ⟨impl_flip.ok k, impl_room.ok k, impl_Leaf.ok k, impl_node.ok, trivial⟩

noncomputable def impl_Convex.f (k : Nat) (a0 : List S4) : Option (Tree × Int × Unit) :=
  if (decide ((a0.length : Int) > 24)) = true then (some ((Tree.mk false ⟨0, 0, 0, 0⟩ ([] : List Tree)), 1, ())) else ((impl_planesOk.f k  a0).bind fun t1 => if (!t1) = true then (some ((Tree.mk false ⟨0, 0, 0, 0⟩ ([] : List Tree)), 1, ())) else ((impl_open.f k  a0).bind fun t2 => if (!t2) = true then (some ((Tree.mk false ⟨0, 0, 0, 0⟩ ([] : List Tree)), 2, ())) else ((impl_convex.f k  a0).bind fun t3 => some ((T1 t3), 0, ()))))
noncomputable def impl_Convex.e (k : Nat) : FE := { α := (List S4) × Unit, β := (Tree × Int × Unit), args := (lCons (aSl .s4) lNil), ret := (rSol2 vI), f := fun p => impl_Convex.f k p.1 }
noncomputable def impl_Convex.c (k : Nat) : List (Nat × CE) := [(97, .fn (impl_planesOk.e k)), (98, .fn (impl_open.e k)), (99, .fn (impl_convex.e k))]
noncomputable def impl_Convex.bd : Code := match Try.f25.body with | some c => c | none => .skip
noncomputable def impl_Convex.g (k : Nat) : List (Nat × LE) := []
theorem impl_Convex.link (k : Nat) (a0 : List S4) : evFun (mkCx Try.prog (impl_Convex.c k) (impl_Convex.g k) : Cx (Tree × Int × Unit)) Try.f25 ((impl_Convex.e k).args.enc (a0, ())) (impl_Convex.e k).ret.dec = impl_Convex.f k a0 := by kernel_rfl
theorem impl_Convex.ok1 (k : Nat) (hC : AllFun Try.prog (impl_Convex.c k)) : Fun Try.prog 25 (impl_Convex.e k).G := fun_ok mixed (body := impl_Convex.bd) Try.func25 (by kernel_rfl) (by kernel_rfl) (by kernel_rfl) hC (loops_all 0 (by kernel_rfl) fun i hi => absurd hi (Nat.not_lt_zero i)) (impl_Convex.e k) (fun a => Nat.le_of_ble_eq_true (by kernel_rfl)) fun a b h => (impl_Convex.link k a.1).trans h
theorem impl_Convex.ok (k : Nat) : Fun Try.prog 25 (impl_Convex.e k).G := impl_Convex.ok1 k ⟨impl_planesOk.ok k, impl_open.ok k, impl_convex.ok k, trivial⟩

noncomputable def laws_eqPlaneS.H4 : Hd := ⟨[], [0, 1, 5], [], [], []⟩
@[reducible] def laws_eqPlaneS.A4 : Type := (((List S4) × (List S4) × Int × Unit) × (Unit))
noncomputable def laws_eqPlaneS.Z4 : SC laws_eqPlaneS.A4 := sC laws_eqPlaneS.H4 (eCons 0 (tP (aSl .s4)) (eCons 1 (tP (aSl .s4)) (eCons 5 (tP (aI .i64)) eNil))) bNil
@[reducible] def laws_eqPlaneS.B4 : Type := ((Bool × Unit) × (Unit)) ⊕ ((Unit) × (Unit))
noncomputable def laws_eqPlaneS.X4 : XC laws_eqPlaneS.B4 := xOr (xRet (sC ⟨[], [4], [], [], []⟩ (eCons 4 (tP aB) eNil) bNil)) (xExit 0 (sC ⟨[], [], [], [], []⟩ eNil bNil))
noncomputable def laws_eqPlaneS.s4 (k : Nat)  (J : (List S4) → (List S4) → Int → Option laws_eqPlaneS.B4) (x0 : List S4) (x1 : List S4) (x5 : Int) : Option laws_eqPlaneS.B4 :=
  if (decide (x5 < (x0.length : Int))) = true then (if 0 ≤ x5 then (if x5 < (x0.length : Int) then (if 0 ≤ x5 then (if x5 < (x1.length : Int) then ((laws_eqPlane.f k  (rd x0 x5) (rd x1 x5)).bind fun t1 => if (!t1) = true then (some (.inl ((false, ()), (())))) else (J x0 x1 (W (x5 + 1)))) else none) else none) else none) else none) else (some (.inr ((()), (()))))
noncomputable def laws_eqPlaneS.l4 (k : Nat)  : Nat → (List S4) → (List S4) → Int → Option laws_eqPlaneS.B4
  | 0, _, _, _ => none
  | n + 1, x0, x1, x5 => laws_eqPlaneS.s4 k (laws_eqPlaneS.l4 k n) x0 x1 x5
noncomputable def laws_eqPlaneS.f (k : Nat) (a0 : List S4) (a1 : List S4) : Option Bool :=
  if ((a0.length : Int) != (a1.length : Int)) = true then (some false) else ((laws_eqPlaneS.l4 k k a0 a1 0).bind fun | .inl r2 => (some r2.1.1) | .inr x3 => (some true))
noncomputable def laws_eqPlaneS.e (k : Nat) : FE := { α := (List S4) × (List S4) × Unit, β := Bool, args := (lCons (aSl .s4) (lCons (aSl .s4) lNil)), ret := (rOne aB), f := fun p => laws_eqPlaneS.f k p.1 p.2.1 }
noncomputable def laws_eqPlaneS.c (k : Nat) : List (Nat × CE) := [(90, .fn (laws_eqPlane.e k))]
noncomputable def laws_eqPlaneS.bd : Code := match Try.f26.body with | some c => c | none => .skip
noncomputable def laws_eqPlaneS.e4 (k : Nat) : LE := { H := laws_eqPlaneS.H4, α := laws_eqPlaneS.A4, β := laws_eqPlaneS.B4, st := laws_eqPlaneS.Z4, xt := laws_eqPlaneS.X4, f := fun p => laws_eqPlaneS.l4 k k p.1.1 p.1.2.1 p.1.2.2.1 }
noncomputable def laws_eqPlaneS.g (k : Nat) : List (Nat × LE) := [(4, laws_eqPlaneS.e4 k)]
theorem laws_eqPlaneS.t4 (k : Nat) (I : S2 → Option laws_eqPlaneS.B4) (x0 : List S4) (x1 : List S4) (x5 : Int) : stepOf (mkCx Try.prog (laws_eqPlaneS.c k) (laws_eqPlaneS.g k) : Cx laws_eqPlaneS.B4) (loopAt laws_eqPlaneS.bd 0) laws_eqPlaneS.H4 laws_eqPlaneS.X4.dec I (laws_eqPlaneS.Z4.enc ((x0, x1, x5, ()), (()))) = laws_eqPlaneS.s4 k (fun x0 x1 x5 => I (laws_eqPlaneS.Z4.enc ((x0, x1, x5, ()), (())))) x0 x1 x5 := by kernel_rfl
theorem laws_eqPlaneS.i4 (k : Nat) : ∀ (n : Nat) (x0 : List S4) (x1 : List S4) (x5 : Int), iter (evCode (mkCx Try.prog (laws_eqPlaneS.c k) (laws_eqPlaneS.g k) : Cx laws_eqPlaneS.B4) (loopAt laws_eqPlaneS.bd 0)) laws_eqPlaneS.H4 laws_eqPlaneS.X4.dec n (laws_eqPlaneS.Z4.enc ((x0, x1, x5, ()), (()))) = laws_eqPlaneS.l4 k n x0 x1 x5
  | 0, _, _, _ => rfl
  | n + 1, x0, x1, x5 => ((iter_step _ _ _ _ n _).trans (laws_eqPlaneS.t4 k _ x0 x1 x5)).trans (congrArg (fun J => laws_eqPlaneS.s4 k J x0 x1 x5) (funext fun x0 => funext fun x1 => funext fun x5 => laws_eqPlaneS.i4 k n x0 x1 x5))
theorem laws_eqPlaneS.to4 (k : Nat) (hC : AllFun Try.prog (laws_eqPlaneS.c k)) : LoopTo Try.prog 27 (laws_eqPlaneS.e4 k) (loopAt laws_eqPlaneS.bd 0) := loop_to mixed hC (by kernel_rfl) (loops_all 0 (by kernel_rfl) fun i hi => absurd hi (Nat.not_lt_zero i)) fun a b h => ⟨k, (laws_eqPlaneS.i4 k k a.1.1 a.1.2.1 a.1.2.2.1).trans h⟩
theorem laws_eqPlaneS.link (k : Nat) (a0 : List S4) (a1 : List S4) : evFun (mkCx Try.prog (laws_eqPlaneS.c k) (laws_eqPlaneS.g k) : Cx Bool) Try.f26 ((laws_eqPlaneS.e k).args.enc (a0, a1, ())) (laws_eqPlaneS.e k).ret.dec = laws_eqPlaneS.f k a0 a1 := by kernel_rfl
theorem laws_eqPlaneS.ok1 (k : Nat) (hC : AllFun Try.prog (laws_eqPlaneS.c k)) : Fun Try.prog 26 (laws_eqPlaneS.e k).G := fun_ok mixed (body := laws_eqPlaneS.bd) Try.func26 (by kernel_rfl) (by kernel_rfl) (by kernel_rfl) hC (loops_all 1 (by kernel_rfl) fun i hi => by obtain rfl : i = 0 := Nat.lt_one_iff.1 hi; exact ⟨laws_eqPlaneS.e4 k, by kernel_rfl, laws_eqPlaneS.to4 k hC⟩) (laws_eqPlaneS.e k) (fun a => Nat.le_of_ble_eq_true (by kernel_rfl)) fun a b h => (laws_eqPlaneS.link k a.1 a.2.1).trans h
theorem laws_eqPlaneS.ok (k : Nat) : Fun Try.prog 26 (laws_eqPlaneS.e k).G := laws_eqPlaneS.ok1 k ⟨laws_eqPlane.ok k, trivial⟩

end Go.Proofs.Ytlkcpldohlemcaa.G
