/- Go functions told as plain Lean functions; that the code does what these tell. Printed by a program of the session (evp.py). -/
import Derived.Test.YtalkkenkeilmpaaGreatDoorEv16
import Derived.Test.YtalkkenkeilmpaaGreatDoorG1
namespace Go.Proofs.YtalkkenkeilmpaaGreatDoor.G
open Go Go.RowKit Go.Proofs Go.Proofs.YtalkkenkeilmpaaGreatDoor.Ev
set_option linter.unusedVariables false
set_option maxRecDepth 100000

noncomputable def impl_divisor.H6 : Hd := ⟨[], [3, 5, 6, 7, 8], [], [], []⟩
@[reducible] def impl_divisor.A6 : Type := ((Int × Int × (List Int) × Int × Int × Unit) × (Unit))
noncomputable def impl_divisor.Z6 : SC impl_divisor.A6 := sC impl_divisor.H6 (eCons 3 (tP (aI .i64)) (eCons 5 (tP (aI .i64)) (eCons 6 (tP (aSl (.i .i64))) (eCons 7 (tP (aI .i64)) (eCons 8 (tP (aI .i64)) eNil))))) bNil
@[reducible] def impl_divisor.B6 : Type := ((Int × (List Int) × Int × Int × Unit) × (Unit))
noncomputable def impl_divisor.X6 : XC impl_divisor.B6 := xExit 2 (sC ⟨[], [3, 6, 7, 8], [], [], []⟩ (eCons 3 (tP (aI .i64)) (eCons 6 (tP (aSl (.i .i64))) (eCons 7 (tP (aI .i64)) (eCons 8 (tP (aI .i64)) eNil)))) bNil)
noncomputable def impl_divisor.s6 (k : Nat)  (J : Int → Int → (List Int) → Int → Int → Option impl_divisor.B6) (x3 : Int) (x5 : Int) (x6 : List Int) (x7 : Int) (x8 : Int) : Option impl_divisor.B6 :=
  if (x5 != 0) = true then (if x5 = 0 then none else (J x5 (x3.tmod x5) x6 x7 x8)) else (some ((x3, x6, x7, x8, ()), (())))
noncomputable def impl_divisor.l6 (k : Nat)  : Nat → Int → Int → (List Int) → Int → Int → Option impl_divisor.B6
  | 0, _, _, _, _, _ => none
  | n + 1, x3, x5, x6, x7, x8 => impl_divisor.s6 k (impl_divisor.l6 k n) x3 x5 x6 x7 x8
noncomputable def impl_divisor.H3 : Hd := ⟨[], [3, 6, 7, 8], [], [], []⟩
@[reducible] def impl_divisor.A3 : Type := ((Int × (List Int) × Int × Int × Unit) × (Unit))
noncomputable def impl_divisor.Z3 : SC impl_divisor.A3 := sC impl_divisor.H3 (eCons 3 (tP (aI .i64)) (eCons 6 (tP (aSl (.i .i64))) (eCons 7 (tP (aI .i64)) (eCons 8 (tP (aI .i64)) eNil)))) bNil
@[reducible] def impl_divisor.B3 : Type := ((Int × Unit) × (Unit))
noncomputable def impl_divisor.X3 : XC impl_divisor.B3 := xExit 0 (sC ⟨[], [3], [], [], []⟩ (eCons 3 (tP (aI .i64)) eNil) bNil)
noncomputable def impl_divisor.s3 (k : Nat)  (J : Int → (List Int) → Int → Int → Option impl_divisor.B3) (x3 : Int) (x6 : List Int) (x7 : Int) (x8 : Int) : Option impl_divisor.B3 :=
  if (decide (x8 < x7)) = true then (if 0 ≤ x8 then (if x8 < (x6.length : Int) then ((impl_divisor.l6 k k x3 (if (W (0 - (rd x6 x8))) > (rd x6 x8) then (W (0 - (rd x6 x8))) else (rd x6 x8)) x6 x7 x8).bind fun x1 => J x1.1.1 x1.1.2.1 x1.1.2.2.1 (W (x1.1.2.2.2.1 + 1))) else none) else none) else (some ((x3, ()), (())))
noncomputable def impl_divisor.l3 (k : Nat)  : Nat → Int → (List Int) → Int → Int → Option impl_divisor.B3
  | 0, _, _, _, _ => none
  | n + 1, x3, x6, x7, x8 => impl_divisor.s3 k (impl_divisor.l3 k n) x3 x6 x7 x8
noncomputable def impl_divisor.f (k : Nat) (a0 : List Int) : Option Int :=
  (impl_divisor.l3 k k 0 a0 (a0.length : Int) 0).bind fun x2 => some x2.1.1
noncomputable def impl_divisor.e (k : Nat) : FE := { α := (List Int) × Unit, β := Int, args := (lCons (aSl (.i .i64)) lNil), ret := (rOne (aI .i64)), f := fun p => impl_divisor.f k p.1 }
noncomputable def impl_divisor.c (k : Nat) : List (Nat × CE) := []
noncomputable def impl_divisor.bd : Code := match Tryz.f21.body with | some c => c | none => .skip
noncomputable def impl_divisor.e6 (k : Nat) : LE := { H := impl_divisor.H6, α := impl_divisor.A6, β := impl_divisor.B6, st := impl_divisor.Z6, xt := impl_divisor.X6, f := fun p => impl_divisor.l6 k k p.1.1 p.1.2.1 p.1.2.2.1 p.1.2.2.2.1 p.1.2.2.2.2.1 }
noncomputable def impl_divisor.e3 (k : Nat) : LE := { H := impl_divisor.H3, α := impl_divisor.A3, β := impl_divisor.B3, st := impl_divisor.Z3, xt := impl_divisor.X3, f := fun p => impl_divisor.l3 k k p.1.1 p.1.2.1 p.1.2.2.1 p.1.2.2.2.1 }
noncomputable def impl_divisor.g (k : Nat) : List (Nat × LE) := [(6, impl_divisor.e6 k), (3, impl_divisor.e3 k)]
theorem impl_divisor.t6 (k : Nat) (I : S2 → Option impl_divisor.B6) (x3 : Int) (x5 : Int) (x6 : List Int) (x7 : Int) (x8 : Int) : stepOf (mkCx Tryz.prog (impl_divisor.c k) (impl_divisor.g k) : Cx impl_divisor.B6) (loopAt (loopAt impl_divisor.bd 0) 0) impl_divisor.H6 impl_divisor.X6.dec I (impl_divisor.Z6.enc ((x3, x5, x6, x7, x8, ()), (()))) = impl_divisor.s6 k (fun x3 x5 x6 x7 x8 => I (impl_divisor.Z6.enc ((x3, x5, x6, x7, x8, ()), (())))) x3 x5 x6 x7 x8 := by kernel_rfl
theorem impl_divisor.i6 (k : Nat) : ∀ (n : Nat) (x3 : Int) (x5 : Int) (x6 : List Int) (x7 : Int) (x8 : Int), iter (evCode (mkCx Tryz.prog (impl_divisor.c k) (impl_divisor.g k) : Cx impl_divisor.B6) (loopAt (loopAt impl_divisor.bd 0) 0)) impl_divisor.H6 impl_divisor.X6.dec n (impl_divisor.Z6.enc ((x3, x5, x6, x7, x8, ()), (()))) = impl_divisor.l6 k n x3 x5 x6 x7 x8
  | 0, _, _, _, _, _ => rfl
  | n + 1, x3, x5, x6, x7, x8 => ((iter_step _ _ _ _ n _).trans (impl_divisor.t6 k _ x3 x5 x6 x7 x8)).trans (congrArg (fun J => impl_divisor.s6 k J x3 x5 x6 x7 x8) (funext fun x3 => funext fun x5 => funext fun x6 => funext fun x7 => funext fun x8 => impl_divisor.i6 k n x3 x5 x6 x7 x8))
theorem impl_divisor.t3 (k : Nat) (I : S2 → Option impl_divisor.B3) (x3 : Int) (x6 : List Int) (x7 : Int) (x8 : Int) : stepOf (mkCx Tryz.prog (impl_divisor.c k) (impl_divisor.g k) : Cx impl_divisor.B3) (loopAt impl_divisor.bd 0) impl_divisor.H3 impl_divisor.X3.dec I (impl_divisor.Z3.enc ((x3, x6, x7, x8, ()), (()))) = impl_divisor.s3 k (fun x3 x6 x7 x8 => I (impl_divisor.Z3.enc ((x3, x6, x7, x8, ()), (())))) x3 x6 x7 x8 := by kernel_rfl
theorem impl_divisor.i3 (k : Nat) : ∀ (n : Nat) (x3 : Int) (x6 : List Int) (x7 : Int) (x8 : Int), iter (evCode (mkCx Tryz.prog (impl_divisor.c k) (impl_divisor.g k) : Cx impl_divisor.B3) (loopAt impl_divisor.bd 0)) impl_divisor.H3 impl_divisor.X3.dec n (impl_divisor.Z3.enc ((x3, x6, x7, x8, ()), (()))) = impl_divisor.l3 k n x3 x6 x7 x8
  | 0, _, _, _, _ => rfl
  | n + 1, x3, x6, x7, x8 => ((iter_step _ _ _ _ n _).trans (impl_divisor.t3 k _ x3 x6 x7 x8)).trans (congrArg (fun J => impl_divisor.s3 k J x3 x6 x7 x8) (funext fun x3 => funext fun x6 => funext fun x7 => funext fun x8 => impl_divisor.i3 k n x3 x6 x7 x8))
theorem impl_divisor.to6 (k : Nat) (hC : AllFun Tryz.prog (impl_divisor.c k)) : LoopTo Tryz.prog 24 (impl_divisor.e6 k) (loopAt (loopAt impl_divisor.bd 0) 0) := loop_to mixed hC (by kernel_rfl) (loops_all 0 (by kernel_rfl) fun i hi => absurd hi (Nat.not_lt_zero i)) fun a b h => ⟨k, (impl_divisor.i6 k k a.1.1 a.1.2.1 a.1.2.2.1 a.1.2.2.2.1 a.1.2.2.2.2.1).trans h⟩
theorem impl_divisor.to3 (k : Nat) (hC : AllFun Tryz.prog (impl_divisor.c k)) : LoopTo Tryz.prog 24 (impl_divisor.e3 k) (loopAt impl_divisor.bd 0) := loop_to mixed hC (by kernel_rfl) (loops_all 1 (by kernel_rfl) fun i hi => by obtain rfl : i = 0 := Nat.lt_one_iff.1 hi; exact ⟨impl_divisor.e6 k, by kernel_rfl, impl_divisor.to6 k hC⟩) fun a b h => ⟨k, (impl_divisor.i3 k k a.1.1 a.1.2.1 a.1.2.2.1 a.1.2.2.2.1).trans h⟩
theorem impl_divisor.link (k : Nat) (a0 : List Int) : evFun (mkCx Tryz.prog (impl_divisor.c k) (impl_divisor.g k) : Cx Int) Tryz.f21 ((impl_divisor.e k).args.enc (a0, ())) (impl_divisor.e k).ret.dec = impl_divisor.f k a0 := by kernel_rfl
theorem impl_divisor.ok1 (k : Nat) (hC : AllFun Tryz.prog (impl_divisor.c k)) : Fun Tryz.prog 21 (impl_divisor.e k).G := fun_ok mixed (body := impl_divisor.bd) Tryz.func21 (by kernel_rfl) (by kernel_rfl) (by kernel_rfl) hC (loops_all 1 (by kernel_rfl) fun i hi => by obtain rfl : i = 0 := Nat.lt_one_iff.1 hi; exact ⟨impl_divisor.e3 k, by kernel_rfl, impl_divisor.to3 k hC⟩) (impl_divisor.e k) (fun a => Nat.le_of_ble_eq_true (by kernel_rfl)) fun a b h => (impl_divisor.link k a.1).trans h
theorem impl_divisor.ok (k : Nat) : Fun Tryz.prog 21 (impl_divisor.e k).G := impl_divisor.ok1 k trivial

noncomputable def impl_PlaneOk.f (k : Nat) (a0 : S4) : Option Bool :=
  (impl_isCoef.f k  a0.a).bind fun t1 => if (!t1) = true then (some false) else ((impl_isCoef.f k  a0.b).bind fun t2 => if (!t2) = true then (some false) else ((impl_isCoef.f k  a0.c).bind fun t3 => if (!t3) = true then (some false) else ((impl_isCoef.f k  a0.d).bind fun t4 => if (!t4) = true then (some false) else (if (a0.a != 0) = true then ((impl_divisor.f k  ([a0.a, a0.b, a0.c, a0.d] : List Int)).bind fun t5 => some (t5 == 1)) else (if (a0.b != 0) = true then ((impl_divisor.f k  ([a0.a, a0.b, a0.c, a0.d] : List Int)).bind fun t6 => some (t6 == 1)) else (if (a0.c != 0) = true then ((impl_divisor.f k  ([a0.a, a0.b, a0.c, a0.d] : List Int)).bind fun t7 => some (t7 == 1)) else (some false)))))))
noncomputable def impl_PlaneOk.e (k : Nat) : FE := { α := S4 × Unit, β := Bool, args := (lCons aS4 lNil), ret := (rOne aB), f := fun p => impl_PlaneOk.f k p.1 }
noncomputable def impl_PlaneOk.c (k : Nat) : List (Nat × CE) := [(20, .fn (impl_isCoef.e k)), (21, .fn (impl_divisor.e k))]
noncomputable def impl_PlaneOk.bd : Code := match Tryz.f9.body with | some c => c | none => .skip
noncomputable def impl_PlaneOk.g (k : Nat) : List (Nat × LE) := []
theorem impl_PlaneOk.link (k : Nat) (a0 : S4) : evFun (mkCx Tryz.prog (impl_PlaneOk.c k) (impl_PlaneOk.g k) : Cx Bool) Tryz.f9 ((impl_PlaneOk.e k).args.enc (a0, ())) (impl_PlaneOk.e k).ret.dec = impl_PlaneOk.f k a0 := by kernel_rfl
theorem impl_PlaneOk.ok1 (k : Nat) (hC : AllFun Tryz.prog (impl_PlaneOk.c k)) : Fun Tryz.prog 9 (impl_PlaneOk.e k).G := fun_ok mixed (body := impl_PlaneOk.bd) Tryz.func9 (by kernel_rfl) (by kernel_rfl) (by kernel_rfl) hC (loops_all 0 (by kernel_rfl) fun i hi => absurd hi (Nat.not_lt_zero i)) (impl_PlaneOk.e k) (fun a => Nat.le_of_ble_eq_true (by kernel_rfl)) fun a b h => (impl_PlaneOk.link k a.1).trans h
theorem impl_PlaneOk.ok (k : Nat) : Fun Tryz.prog 9 (impl_PlaneOk.e k).G := impl_PlaneOk.ok1 k ⟨impl_isCoef.ok k, impl_divisor.ok k, trivial⟩

theorem strconv_Itoa.ok (k : Nat) : Fun Tryz.prog 14 (strconv_Itoa.e k).G := strconv_Itoa.okW k

theorem strings_Join.ok (k : Nat) : Fun Tryz.prog 15 (strings_Join.e k).G := strings_Join.okW k

noncomputable def impl_PlaneText.H5 : Hd := ⟨[(3, 9, .str)], [3, 17, 18], [], [], []⟩
@[reducible] def impl_PlaneText.A5 : Type := ((Unit × S4 × Int × Unit) × ((List ByteArray) × Unit))
noncomputable def impl_PlaneText.Z5 : SC impl_PlaneText.A5 := sC impl_PlaneText.H5 (eCons 3 (tOsl 1000003) (eCons 17 (tP aS4) (eCons 18 (tP (aI .i64)) eNil))) (bCons 1000003 (xRow 9 .str) bNil)
@[reducible] def impl_PlaneText.B5 : Type := ((Unit × Unit) × ((List ByteArray) × Unit))
noncomputable def impl_PlaneText.X5 : XC impl_PlaneText.B5 := xExit 0 (sC ⟨[], [3], [], [], []⟩ (eCons 3 (tOsl 1000003) eNil) (bCons 1000003 (xRow 9 .str) bNil))
noncomputable def impl_PlaneText.s5 (k : Nat)  (J : S4 → Int → (List ByteArray) → Option impl_PlaneText.B5) (x17 : S4) (x18 : Int) (b1000003 : List ByteArray) : Option impl_PlaneText.B5 :=
  if (decide (x18 < 4)) = true then (if 0 ≤ x18 then (if x18 < 4 then ((strconv_Itoa.f k  (sel [x17.a, x17.b, x17.c, x17.d] x18)).bind fun t2 => if lt47 (b1000003.length + ([t2] : List ByteArray).length) = true then (J x17 (W (x18 + 1)) (b1000003 ++ ([t2] : List ByteArray))) else none) else none) else none) else (some (((), ()), (b1000003, ())))
noncomputable def impl_PlaneText.l5 (k : Nat)  : Nat → S4 → Int → (List ByteArray) → Option impl_PlaneText.B5
  | 0, _, _, _ => none
  | n + 1, x17, x18, b1000003 => impl_PlaneText.s5 k (impl_PlaneText.l5 k n) x17 x18 b1000003
noncomputable def impl_PlaneText.f (k : Nat) (a0 : S4) : Option ByteArray :=
  (impl_PlaneOk.f k  a0).bind fun t1 => if (!t1) = true then (some (⟨#[]⟩ : ByteArray)) else ((impl_PlaneText.l5 k k a0 0 ([] : List ByteArray)).bind fun x3 => (strings_Join.f k  x3.2.1 (⟨#[32]⟩ : ByteArray)).bind fun t4 => some t4)
noncomputable def impl_PlaneText.e (k : Nat) : FE := { α := S4 × Unit, β := ByteArray, args := (lCons aS4 lNil), ret := (rOne aStr), f := fun p => impl_PlaneText.f k p.1 }
noncomputable def impl_PlaneText.c (k : Nat) : List (Nat × CE) := [(9, .fn (impl_PlaneOk.e k)), (14, .fn (strconv_Itoa.e k)), (15, .fn (strings_Join.e k))]
noncomputable def impl_PlaneText.bd : Code := match Tryz.f6.body with | some c => c | none => .skip
noncomputable def impl_PlaneText.e5 (k : Nat) : LE := { H := impl_PlaneText.H5, α := impl_PlaneText.A5, β := impl_PlaneText.B5, st := impl_PlaneText.Z5, xt := impl_PlaneText.X5, f := fun p => impl_PlaneText.l5 k k p.1.2.1 p.1.2.2.1 p.2.1 }
noncomputable def impl_PlaneText.g (k : Nat) : List (Nat × LE) := [(5, impl_PlaneText.e5 k)]
theorem impl_PlaneText.t5 (k : Nat) (I : S2 → Option impl_PlaneText.B5) (x17 : S4) (x18 : Int) (b1000003 : List ByteArray) : stepOf (mkCx Tryz.prog (impl_PlaneText.c k) (impl_PlaneText.g k) : Cx impl_PlaneText.B5) (loopAt impl_PlaneText.bd 0) impl_PlaneText.H5 impl_PlaneText.X5.dec I (impl_PlaneText.Z5.enc (((), x17, x18, ()), (b1000003, ()))) = impl_PlaneText.s5 k (fun x17 x18 b1000003 => I (impl_PlaneText.Z5.enc (((), x17, x18, ()), (b1000003, ())))) x17 x18 b1000003 := by kernel_rfl
theorem impl_PlaneText.i5 (k : Nat) : ∀ (n : Nat) (x17 : S4) (x18 : Int) (b1000003 : List ByteArray), iter (evCode (mkCx Tryz.prog (impl_PlaneText.c k) (impl_PlaneText.g k) : Cx impl_PlaneText.B5) (loopAt impl_PlaneText.bd 0)) impl_PlaneText.H5 impl_PlaneText.X5.dec n (impl_PlaneText.Z5.enc (((), x17, x18, ()), (b1000003, ()))) = impl_PlaneText.l5 k n x17 x18 b1000003
  | 0, _, _, _ => rfl
  | n + 1, x17, x18, b1000003 => ((iter_step _ _ _ _ n _).trans (impl_PlaneText.t5 k _ x17 x18 b1000003)).trans (congrArg (fun J => impl_PlaneText.s5 k J x17 x18 b1000003) (funext fun x17 => funext fun x18 => funext fun b1000003 => impl_PlaneText.i5 k n x17 x18 b1000003))
theorem impl_PlaneText.to5 (k : Nat) (hC : AllFun Tryz.prog (impl_PlaneText.c k)) : LoopTo Tryz.prog 29 (impl_PlaneText.e5 k) (loopAt impl_PlaneText.bd 0) := loop_to mixed hC (by kernel_rfl) (loops_all 0 (by kernel_rfl) fun i hi => absurd hi (Nat.not_lt_zero i)) fun a b h => ⟨k, (impl_PlaneText.i5 k k a.1.2.1 a.1.2.2.1 a.2.1).trans h⟩
theorem impl_PlaneText.link (k : Nat) (a0 : S4) : evFun (mkCx Tryz.prog (impl_PlaneText.c k) (impl_PlaneText.g k) : Cx ByteArray) Tryz.f6 ((impl_PlaneText.e k).args.enc (a0, ())) (impl_PlaneText.e k).ret.dec = impl_PlaneText.f k a0 := by kernel_rfl
theorem impl_PlaneText.ok1 (k : Nat) (hC : AllFun Tryz.prog (impl_PlaneText.c k)) : Fun Tryz.prog 6 (impl_PlaneText.e k).G := fun_ok mixed (body := impl_PlaneText.bd) Tryz.func6 (by kernel_rfl) (by kernel_rfl) (by kernel_rfl) hC (loops_all 1 (by kernel_rfl) fun i hi => by obtain rfl : i = 0 := Nat.lt_one_iff.1 hi; exact ⟨impl_PlaneText.e5 k, by kernel_rfl, impl_PlaneText.to5 k hC⟩) (impl_PlaneText.e k) (fun a => Nat.le_of_ble_eq_true (by kernel_rfl)) fun a b h => (impl_PlaneText.link k a.1).trans h
theorem impl_PlaneText.ok (k : Nat) : Fun Tryz.prog 6 (impl_PlaneText.e k).G := impl_PlaneText.ok1 k ⟨impl_PlaneOk.ok k, strconv_Itoa.ok k, strings_Join.ok k, trivial⟩

noncomputable def cmp_Or_int.H3 : Hd := ⟨[], [3, 6, 7, 8], [], [], []⟩
@[reducible] def cmp_Or_int.A3 : Type := ((Int × (List Int) × Int × Int × Unit) × (Unit))
noncomputable def cmp_Or_int.Z3 : SC cmp_Or_int.A3 := sC cmp_Or_int.H3 (eCons 3 (tP (aI .i64)) (eCons 6 (tP (aSl (.i .i64))) (eCons 7 (tP (aI .i64)) (eCons 8 (tP (aI .i64)) eNil)))) bNil
@[reducible] def cmp_Or_int.B3 : Type := ((Int × Unit) × (Unit)) ⊕ ((Int × Unit) × (Unit))
noncomputable def cmp_Or_int.X3 : XC cmp_Or_int.B3 := xOr (xRet (sC ⟨[], [2], [], [], []⟩ (eCons 2 (tP (aI .i64)) eNil) bNil)) (xExit 0 (sC ⟨[], [3], [], [], []⟩ (eCons 3 (tP (aI .i64)) eNil) bNil))
noncomputable def cmp_Or_int.s3 (k : Nat)  (J : Int → (List Int) → Int → Int → Option cmp_Or_int.B3) (x3 : Int) (x6 : List Int) (x7 : Int) (x8 : Int) : Option cmp_Or_int.B3 :=
  if (decide (x8 < x7)) = true then (if 0 ≤ x8 then (if x8 < (x6.length : Int) then (if ((rd x6 x8) != x3) = true then (some (.inl (((rd x6 x8), ()), (())))) else (J x3 x6 x7 (W (x8 + 1)))) else none) else none) else (some (.inr ((x3, ()), (()))))
noncomputable def cmp_Or_int.l3 (k : Nat)  : Nat → Int → (List Int) → Int → Int → Option cmp_Or_int.B3
  | 0, _, _, _, _ => none
  | n + 1, x3, x6, x7, x8 => cmp_Or_int.s3 k (cmp_Or_int.l3 k n) x3 x6 x7 x8
noncomputable def cmp_Or_int.f (k : Nat) (a0 : List Int) : Option Int :=
  (cmp_Or_int.l3 k k 0 a0 (a0.length : Int) 0).bind fun | .inl r1 => (some r1.1.1) | .inr x2 => (some x2.1.1)
noncomputable def cmp_Or_int.e (k : Nat) : FE := { α := (List Int) × Unit, β := Int, args := (lCons (aSl (.i .i64)) lNil), ret := (rOne (aI .i64)), f := fun p => cmp_Or_int.f k p.1 }
noncomputable def cmp_Or_int.c (k : Nat) : List (Nat × CE) := []
noncomputable def cmp_Or_int.bd : Code := match Tryz.f16.body with | some c => c | none => .skip
noncomputable def cmp_Or_int.e3 (k : Nat) : LE := { H := cmp_Or_int.H3, α := cmp_Or_int.A3, β := cmp_Or_int.B3, st := cmp_Or_int.Z3, xt := cmp_Or_int.X3, f := fun p => cmp_Or_int.l3 k k p.1.1 p.1.2.1 p.1.2.2.1 p.1.2.2.2.1 }
noncomputable def cmp_Or_int.g (k : Nat) : List (Nat × LE) := [(3, cmp_Or_int.e3 k)]
theorem cmp_Or_int.t3 (k : Nat) (I : S2 → Option cmp_Or_int.B3) (x3 : Int) (x6 : List Int) (x7 : Int) (x8 : Int) : stepOf (mkCx Tryz.prog (cmp_Or_int.c k) (cmp_Or_int.g k) : Cx cmp_Or_int.B3) (loopAt cmp_Or_int.bd 0) cmp_Or_int.H3 cmp_Or_int.X3.dec I (cmp_Or_int.Z3.enc ((x3, x6, x7, x8, ()), (()))) = cmp_Or_int.s3 k (fun x3 x6 x7 x8 => I (cmp_Or_int.Z3.enc ((x3, x6, x7, x8, ()), (())))) x3 x6 x7 x8 := by kernel_rfl
theorem cmp_Or_int.i3 (k : Nat) : ∀ (n : Nat) (x3 : Int) (x6 : List Int) (x7 : Int) (x8 : Int), iter (evCode (mkCx Tryz.prog (cmp_Or_int.c k) (cmp_Or_int.g k) : Cx cmp_Or_int.B3) (loopAt cmp_Or_int.bd 0)) cmp_Or_int.H3 cmp_Or_int.X3.dec n (cmp_Or_int.Z3.enc ((x3, x6, x7, x8, ()), (()))) = cmp_Or_int.l3 k n x3 x6 x7 x8
  | 0, _, _, _, _ => rfl
  | n + 1, x3, x6, x7, x8 => ((iter_step _ _ _ _ n _).trans (cmp_Or_int.t3 k _ x3 x6 x7 x8)).trans (congrArg (fun J => cmp_Or_int.s3 k J x3 x6 x7 x8) (funext fun x3 => funext fun x6 => funext fun x7 => funext fun x8 => cmp_Or_int.i3 k n x3 x6 x7 x8))
theorem cmp_Or_int.to3 (k : Nat) (hC : AllFun Tryz.prog (cmp_Or_int.c k)) : LoopTo Tryz.prog 18 (cmp_Or_int.e3 k) (loopAt cmp_Or_int.bd 0) := loop_to mixed hC (by kernel_rfl) (loops_all 0 (by kernel_rfl) fun i hi => absurd hi (Nat.not_lt_zero i)) fun a b h => ⟨k, (cmp_Or_int.i3 k k a.1.1 a.1.2.1 a.1.2.2.1 a.1.2.2.2.1).trans h⟩
theorem cmp_Or_int.link (k : Nat) (a0 : List Int) : evFun (mkCx Tryz.prog (cmp_Or_int.c k) (cmp_Or_int.g k) : Cx Int) Tryz.f16 ((cmp_Or_int.e k).args.enc (a0, ())) (cmp_Or_int.e k).ret.dec = cmp_Or_int.f k a0 := by kernel_rfl
theorem cmp_Or_int.ok1 (k : Nat) (hC : AllFun Tryz.prog (cmp_Or_int.c k)) : Fun Tryz.prog 16 (cmp_Or_int.e k).G := fun_ok mixed (body := cmp_Or_int.bd) Tryz.func16 (by kernel_rfl) (by kernel_rfl) (by kernel_rfl) hC (loops_all 1 (by kernel_rfl) fun i hi => by obtain rfl : i = 0 := Nat.lt_one_iff.1 hi; exact ⟨cmp_Or_int.e3 k, by kernel_rfl, cmp_Or_int.to3 k hC⟩) (cmp_Or_int.e k) (fun a => Nat.le_of_ble_eq_true (by kernel_rfl)) fun a b h => (cmp_Or_int.link k a.1).trans h
theorem cmp_Or_int.ok (k : Nat) : Fun Tryz.prog 16 (cmp_Or_int.e k).G := cmp_Or_int.ok1 k trivial

noncomputable def cmp_isNaN_int.f (k : Nat) (a0 : Int) : Option Bool :=
  some (a0 != a0)
noncomputable def cmp_isNaN_int.e (k : Nat) : FE := { α := Int × Unit, β := Bool, args := (lCons (aI .i64) lNil), ret := (rOne aB), f := fun p => cmp_isNaN_int.f k p.1 }
noncomputable def cmp_isNaN_int.c (k : Nat) : List (Nat × CE) := []
noncomputable def cmp_isNaN_int.bd : Code := match Tryz.f31.body with | some c => c | none => .skip
noncomputable def cmp_isNaN_int.g (k : Nat) : List (Nat × LE) := []
theorem cmp_isNaN_int.link (k : Nat) (a0 : Int) : evFun (mkCx Tryz.prog (cmp_isNaN_int.c k) (cmp_isNaN_int.g k) : Cx Bool) Tryz.f31 ((cmp_isNaN_int.e k).args.enc (a0, ())) (cmp_isNaN_int.e k).ret.dec = cmp_isNaN_int.f k a0 := by kernel_rfl
theorem cmp_isNaN_int.ok1 (k : Nat) (hC : AllFun Tryz.prog (cmp_isNaN_int.c k)) : Fun Tryz.prog 31 (cmp_isNaN_int.e k).G := fun_ok mixed (body := cmp_isNaN_int.bd) Tryz.func31 (by kernel_rfl) (by kernel_rfl) (by kernel_rfl) hC (loops_all 0 (by kernel_rfl) fun i hi => absurd hi (Nat.not_lt_zero i)) (cmp_isNaN_int.e k) (fun a => Nat.le_of_ble_eq_true (by kernel_rfl)) fun a b h => (cmp_isNaN_int.link k a.1).trans h
theorem cmp_isNaN_int.ok (k : Nat) : Fun Tryz.prog 31 (cmp_isNaN_int.e k).G := cmp_isNaN_int.ok1 k trivial

noncomputable def cmp_Compare_int.f (k : Nat) (a0 : Int) (a1 : Int) : Option Int :=
  (cmp_isNaN_int.f k  a0).bind fun t1 => (cmp_isNaN_int.f k  a1).bind fun t2 => if t1 = true then (if t2 = true then (some 0) else (some (-1))) else (if t2 = true then (some 1) else (if (decide (a0 < a1)) = true then (some (-1)) else (if (decide (a0 > a1)) = true then (some 1) else (some 0))))
noncomputable def cmp_Compare_int.e (k : Nat) : FE := { α := Int × Int × Unit, β := Int, args := (lCons (aI .i64) (lCons (aI .i64) lNil)), ret := (rOne (aI .i64)), f := fun p => cmp_Compare_int.f k p.1 p.2.1 }
noncomputable def cmp_Compare_int.c (k : Nat) : List (Nat × CE) := [(31, .fn (cmp_isNaN_int.e k))]
noncomputable def cmp_Compare_int.bd : Code := match Tryz.f17.body with | some c => c | none => .skip
noncomputable def cmp_Compare_int.g (k : Nat) : List (Nat × LE) := []
theorem cmp_Compare_int.link (k : Nat) (a0 : Int) (a1 : Int) : evFun (mkCx Tryz.prog (cmp_Compare_int.c k) (cmp_Compare_int.g k) : Cx Int) Tryz.f17 ((cmp_Compare_int.e k).args.enc (a0, a1, ())) (cmp_Compare_int.e k).ret.dec = cmp_Compare_int.f k a0 a1 := by kernel_rfl
theorem cmp_Compare_int.ok1 (k : Nat) (hC : AllFun Tryz.prog (cmp_Compare_int.c k)) : Fun Tryz.prog 17 (cmp_Compare_int.e k).G := fun_ok mixed (body := cmp_Compare_int.bd) Tryz.func17 (by kernel_rfl) (by kernel_rfl) (by kernel_rfl) hC (loops_all 0 (by kernel_rfl) fun i hi => absurd hi (Nat.not_lt_zero i)) (cmp_Compare_int.e k) (fun a => Nat.le_of_ble_eq_true (by kernel_rfl)) fun a b h => (cmp_Compare_int.link k a.1 a.2.1).trans h
theorem cmp_Compare_int.ok (k : Nat) : Fun Tryz.prog 17 (cmp_Compare_int.e k).G := cmp_Compare_int.ok1 k ⟨cmp_isNaN_int.ok k, trivial⟩

noncomputable def impl_CmpPlane.f (k : Nat) (a0 : S4) (a1 : S4) : Option Int :=
  (cmp_Compare_int.f k  a0.a a1.a).bind fun t1 => (cmp_Compare_int.f k  a0.b a1.b).bind fun t2 => (cmp_Compare_int.f k  a0.c a1.c).bind fun t3 => (cmp_Compare_int.f k  a0.d a1.d).bind fun t4 => (cmp_Or_int.f k  ([t1, t2, t3, t4] : List Int)).bind fun t5 => some t5
noncomputable def impl_CmpPlane.e (k : Nat) : FE := { α := S4 × S4 × Unit, β := Int, args := (lCons aS4 (lCons aS4 lNil)), ret := (rOne (aI .i64)), f := fun p => impl_CmpPlane.f k p.1 p.2.1 }
noncomputable def impl_CmpPlane.c (k : Nat) : List (Nat × CE) := [(17, .fn (cmp_Compare_int.e k)), (16, .fn (cmp_Or_int.e k))]
noncomputable def impl_CmpPlane.bd : Code := match Tryz.f7.body with | some c => c | none => .skip
noncomputable def impl_CmpPlane.g (k : Nat) : List (Nat × LE) := []
theorem impl_CmpPlane.link (k : Nat) (a0 : S4) (a1 : S4) : evFun (mkCx Tryz.prog (impl_CmpPlane.c k) (impl_CmpPlane.g k) : Cx Int) Tryz.f7 ((impl_CmpPlane.e k).args.enc (a0, a1, ())) (impl_CmpPlane.e k).ret.dec = impl_CmpPlane.f k a0 a1 := by kernel_rfl
theorem impl_CmpPlane.ok1 (k : Nat) (hC : AllFun Tryz.prog (impl_CmpPlane.c k)) : Fun Tryz.prog 7 (impl_CmpPlane.e k).G := fun_ok mixed (body := impl_CmpPlane.bd) Tryz.func7 (by kernel_rfl) (by kernel_rfl) (by kernel_rfl) hC (loops_all 0 (by kernel_rfl) fun i hi => absurd hi (Nat.not_lt_zero i)) (impl_CmpPlane.e k) (fun a => Nat.le_of_ble_eq_true (by kernel_rfl)) fun a b h => (impl_CmpPlane.link k a.1 a.2.1).trans h
theorem impl_CmpPlane.ok (k : Nat) : Fun Tryz.prog 7 (impl_CmpPlane.e k).G := impl_CmpPlane.ok1 k ⟨cmp_Compare_int.ok k, cmp_Or_int.ok k, trivial⟩

noncomputable def spec_l3In.f (k : Nat) (a0 : S4) : Option Bool :=
  (spec_l1In.f k  a0.a (W (0 - 500)) 500).bind fun t1 => if t1 = true then ((spec_l1In.f k  a0.b (W (0 - 500)) 500).bind fun t2 => if t2 = true then ((spec_l1In.f k  a0.c (W (0 - 500)) 500).bind fun t3 => if t3 = true then ((spec_l1In.f k  a0.d (W (0 - 500)) 500).bind fun t4 => some t4) else (some false)) else (some false)) else (some false)
noncomputable def spec_l3In.e (k : Nat) : FE := { α := S4 × Unit, β := Bool, args := (lCons aS4 lNil), ret := (rOne aB), f := fun p => spec_l3In.f k p.1 }
noncomputable def spec_l3In.c (k : Nat) : List (Nat × CE) := [(32, .fn (spec_l1In.e k))]
noncomputable def spec_l3In.bd : Code := match Tryz.f18.body with | some c => c | none => .skip
noncomputable def spec_l3In.g (k : Nat) : List (Nat × LE) := []
theorem spec_l3In.link (k : Nat) (a0 : S4) : evFun (mkCx Tryz.prog (spec_l3In.c k) (spec_l3In.g k) : Cx Bool) Tryz.f18 ((spec_l3In.e k).args.enc (a0, ())) (spec_l3In.e k).ret.dec = spec_l3In.f k a0 := by kernel_rfl
theorem spec_l3In.ok1 (k : Nat) (hC : AllFun Tryz.prog (spec_l3In.c k)) : Fun Tryz.prog 18 (spec_l3In.e k).G := fun_ok mixed (body := spec_l3In.bd) Tryz.func18 (by kernel_rfl) (by kernel_rfl) (by kernel_rfl) hC (loops_all 0 (by kernel_rfl) fun i hi => absurd hi (Nat.not_lt_zero i)) (spec_l3In.e k) (fun a => Nat.le_of_ble_eq_true (by kernel_rfl)) fun a b h => (spec_l3In.link k a.1).trans h
theorem spec_l3In.ok (k : Nat) : Fun Tryz.prog 18 (spec_l3In.e k).G := spec_l3In.ok1 k ⟨spec_l1In.ok k, trivial⟩

noncomputable def spec_l3Abs.f (k : Nat) (a0 : Int) : Option Int :=
  if (decide (a0 < 0)) = true then (some (W (0 - a0))) else (some a0)
noncomputable def spec_l3Abs.e (k : Nat) : FE := { α := Int × Unit, β := Int, args := (lCons (aI .i64) lNil), ret := (rOne (aI .i64)), f := fun p => spec_l3Abs.f k p.1 }
noncomputable def spec_l3Abs.c (k : Nat) : List (Nat × CE) := []
noncomputable def spec_l3Abs.bd : Code := match Tryz.f33.body with | some c => c | none => .skip
noncomputable def spec_l3Abs.g (k : Nat) : List (Nat × LE) := []
theorem spec_l3Abs.link (k : Nat) (a0 : Int) : evFun (mkCx Tryz.prog (spec_l3Abs.c k) (spec_l3Abs.g k) : Cx Int) Tryz.f33 ((spec_l3Abs.e k).args.enc (a0, ())) (spec_l3Abs.e k).ret.dec = spec_l3Abs.f k a0 := by kernel_rfl
theorem spec_l3Abs.ok1 (k : Nat) (hC : AllFun Tryz.prog (spec_l3Abs.c k)) : Fun Tryz.prog 33 (spec_l3Abs.e k).G := fun_ok mixed (body := spec_l3Abs.bd) Tryz.func33 (by kernel_rfl) (by kernel_rfl) (by kernel_rfl) hC (loops_all 0 (by kernel_rfl) fun i hi => absurd hi (Nat.not_lt_zero i)) (spec_l3Abs.e k) (fun a => Nat.le_of_ble_eq_true (by kernel_rfl)) fun a b h => (spec_l3Abs.link k a.1).trans h
theorem spec_l3Abs.ok (k : Nat) : Fun Tryz.prog 33 (spec_l3Abs.e k).G := spec_l3Abs.ok1 k trivial

noncomputable def spec_l3Gcd.H3 : Hd := ⟨[], [0, 1], [], [], []⟩
@[reducible] def spec_l3Gcd.A3 : Type := ((Int × Int × Unit) × (Unit))
noncomputable def spec_l3Gcd.Z3 : SC spec_l3Gcd.A3 := sC spec_l3Gcd.H3 (eCons 0 (tP (aI .i64)) (eCons 1 (tP (aI .i64)) eNil)) bNil
@[reducible] def spec_l3Gcd.B3 : Type := ((Int × Unit) × (Unit))
noncomputable def spec_l3Gcd.X3 : XC spec_l3Gcd.B3 := xExit 0 (sC ⟨[], [0], [], [], []⟩ (eCons 0 (tP (aI .i64)) eNil) bNil)
noncomputable def spec_l3Gcd.s3 (k : Nat)  (J : Int → Int → Option spec_l3Gcd.B3) (x0 : Int) (x1 : Int) : Option spec_l3Gcd.B3 :=
  if (decide (x1 > 0)) = true then (if x1 = 0 then none else (J x1 (x0.tmod x1))) else (some ((x0, ()), (())))
noncomputable def spec_l3Gcd.l3 (k : Nat)  : Nat → Int → Int → Option spec_l3Gcd.B3
  | 0, _, _ => none
  | n + 1, x0, x1 => spec_l3Gcd.s3 k (spec_l3Gcd.l3 k n) x0 x1
noncomputable def spec_l3Gcd.f (k : Nat) (a0 : Int) (a1 : Int) : Option Int :=
  (spec_l3Abs.f k  a0).bind fun t1 => (spec_l3Abs.f k  a1).bind fun t2 => (spec_l3Gcd.l3 k k t1 t2).bind fun x3 => some x3.1.1
noncomputable def spec_l3Gcd.e (k : Nat) : FE := { α := Int × Int × Unit, β := Int, args := (lCons (aI .i64) (lCons (aI .i64) lNil)), ret := (rOne (aI .i64)), f := fun p => spec_l3Gcd.f k p.1 p.2.1 }
noncomputable def spec_l3Gcd.c (k : Nat) : List (Nat × CE) := [(33, .fn (spec_l3Abs.e k))]
noncomputable def spec_l3Gcd.bd : Code := match Tryz.f19.body with | some c => c | none => .skip
noncomputable def spec_l3Gcd.e3 (k : Nat) : LE := { H := spec_l3Gcd.H3, α := spec_l3Gcd.A3, β := spec_l3Gcd.B3, st := spec_l3Gcd.Z3, xt := spec_l3Gcd.X3, f := fun p => spec_l3Gcd.l3 k k p.1.1 p.1.2.1 }
noncomputable def spec_l3Gcd.g (k : Nat) : List (Nat × LE) := [(3, spec_l3Gcd.e3 k)]
theorem spec_l3Gcd.t3 (k : Nat) (I : S2 → Option spec_l3Gcd.B3) (x0 : Int) (x1 : Int) : stepOf (mkCx Tryz.prog (spec_l3Gcd.c k) (spec_l3Gcd.g k) : Cx spec_l3Gcd.B3) (loopAt spec_l3Gcd.bd 0) spec_l3Gcd.H3 spec_l3Gcd.X3.dec I (spec_l3Gcd.Z3.enc ((x0, x1, ()), (()))) = spec_l3Gcd.s3 k (fun x0 x1 => I (spec_l3Gcd.Z3.enc ((x0, x1, ()), (())))) x0 x1 := by kernel_rfl
theorem spec_l3Gcd.i3 (k : Nat) : ∀ (n : Nat) (x0 : Int) (x1 : Int), iter (evCode (mkCx Tryz.prog (spec_l3Gcd.c k) (spec_l3Gcd.g k) : Cx spec_l3Gcd.B3) (loopAt spec_l3Gcd.bd 0)) spec_l3Gcd.H3 spec_l3Gcd.X3.dec n (spec_l3Gcd.Z3.enc ((x0, x1, ()), (()))) = spec_l3Gcd.l3 k n x0 x1
  | 0, _, _ => rfl
  | n + 1, x0, x1 => ((iter_step _ _ _ _ n _).trans (spec_l3Gcd.t3 k _ x0 x1)).trans (congrArg (fun J => spec_l3Gcd.s3 k J x0 x1) (funext fun x0 => funext fun x1 => spec_l3Gcd.i3 k n x0 x1))
theorem spec_l3Gcd.to3 (k : Nat) (hC : AllFun Tryz.prog (spec_l3Gcd.c k)) : LoopTo Tryz.prog 18 (spec_l3Gcd.e3 k) (loopAt spec_l3Gcd.bd 0) := loop_to mixed hC (by kernel_rfl) (loops_all 0 (by kernel_rfl) fun i hi => absurd hi (Nat.not_lt_zero i)) fun a b h => ⟨k, (spec_l3Gcd.i3 k k a.1.1 a.1.2.1).trans h⟩
theorem spec_l3Gcd.link (k : Nat) (a0 : Int) (a1 : Int) : evFun (mkCx Tryz.prog (spec_l3Gcd.c k) (spec_l3Gcd.g k) : Cx Int) Tryz.f19 ((spec_l3Gcd.e k).args.enc (a0, a1, ())) (spec_l3Gcd.e k).ret.dec = spec_l3Gcd.f k a0 a1 := by kernel_rfl
theorem spec_l3Gcd.ok1 (k : Nat) (hC : AllFun Tryz.prog (spec_l3Gcd.c k)) : Fun Tryz.prog 19 (spec_l3Gcd.e k).G := fun_ok mixed (body := spec_l3Gcd.bd) Tryz.func19 (by kernel_rfl) (by kernel_rfl) (by kernel_rfl) hC (loops_all 1 (by kernel_rfl) fun i hi => by obtain rfl : i = 0 := Nat.lt_one_iff.1 hi; exact ⟨spec_l3Gcd.e3 k, by kernel_rfl, spec_l3Gcd.to3 k hC⟩) (spec_l3Gcd.e k) (fun a => Nat.le_of_ble_eq_true (by kernel_rfl)) fun a b h => (spec_l3Gcd.link k a.1 a.2.1).trans h
theorem spec_l3Gcd.ok (k : Nat) : Fun Tryz.prog 19 (spec_l3Gcd.e k).G := spec_l3Gcd.ok1 k ⟨spec_l3Abs.ok k, trivial⟩

noncomputable def spec_PlaneOk.f (k : Nat) (a0 : S4) : Option Bool :=
  (spec_l3In.f k  a0).bind fun t1 => if t1 = true then (if (a0.a != 0) = true then ((spec_l3Gcd.f k  a0.a a0.b).bind fun t2 => (spec_l3Gcd.f k  a0.c a0.d).bind fun t3 => (spec_l3Gcd.f k  t2 t3).bind fun t4 => some (t4 == 1)) else (if (a0.b != 0) = true then ((spec_l3Gcd.f k  a0.a a0.b).bind fun t5 => (spec_l3Gcd.f k  a0.c a0.d).bind fun t6 => (spec_l3Gcd.f k  t5 t6).bind fun t7 => some (t7 == 1)) else (if (a0.c != 0) = true then ((spec_l3Gcd.f k  a0.a a0.b).bind fun t8 => (spec_l3Gcd.f k  a0.c a0.d).bind fun t9 => (spec_l3Gcd.f k  t8 t9).bind fun t10 => some (t10 == 1)) else (some false)))) else (some false)
noncomputable def spec_PlaneOk.e (k : Nat) : FE := { α := S4 × Unit, β := Bool, args := (lCons aS4 lNil), ret := (rOne aB), f := fun p => spec_PlaneOk.f k p.1 }
noncomputable def spec_PlaneOk.c (k : Nat) : List (Nat × CE) := [(18, .fn (spec_l3In.e k)), (19, .fn (spec_l3Gcd.e k))]
noncomputable def spec_PlaneOk.bd : Code := match Tryz.f8.body with | some c => c | none => .skip
noncomputable def spec_PlaneOk.g (k : Nat) : List (Nat × LE) := []
theorem spec_PlaneOk.link (k : Nat) (a0 : S4) : evFun (mkCx Tryz.prog (spec_PlaneOk.c k) (spec_PlaneOk.g k) : Cx Bool) Tryz.f8 ((spec_PlaneOk.e k).args.enc (a0, ())) (spec_PlaneOk.e k).ret.dec = spec_PlaneOk.f k a0 := by kernel_rfl
theorem spec_PlaneOk.ok1 (k : Nat) (hC : AllFun Tryz.prog (spec_PlaneOk.c k)) : Fun Tryz.prog 8 (spec_PlaneOk.e k).G := fun_ok mixed (body := spec_PlaneOk.bd) Tryz.func8 (by kernel_rfl) (by kernel_rfl) (by kernel_rfl) hC (loops_all 0 (by kernel_rfl) fun i hi => absurd hi (Nat.not_lt_zero i)) (spec_PlaneOk.e k) (fun a => Nat.le_of_ble_eq_true (by kernel_rfl)) fun a b h => (spec_PlaneOk.link k a.1).trans h
theorem spec_PlaneOk.ok (k : Nat) : Fun Tryz.prog 8 (spec_PlaneOk.e k).G := spec_PlaneOk.ok1 k ⟨spec_l3In.ok k, spec_l3Gcd.ok k, trivial⟩

theorem strings_Split.ok (k : Nat) : Fun Tryz.prog 22 (strings_Split.e k).G := strings_Split.okW k

theorem strconv_Atoi.ok (k : Nat) : Fun Tryz.prog 36 (strconv_Atoi.e k).G := strconv_Atoi.okW k

theorem strings_TrimPrefix.ok (k : Nat) : Fun Tryz.prog 37 (strings_TrimPrefix.e k).G := strings_TrimPrefix.okW k

noncomputable def impl_numberOf.f (k : Nat) (a0 : ByteArray) : Option (Int × Bool × Unit) :=
  (strconv_Atoi.f k  a0).bind fun t1 => if t1.2.1 = true then (some (0, false, ())) else ((strings_TrimPrefix.f k  a0 (⟨#[45]⟩ : ByteArray)).bind fun t2 => if (decide ((t2.size : Int) > 9)) = true then (some (0, false, ())) else ((strconv_Itoa.f k  t1.1).bind fun t3 => if (!(t3.toList == a0.toList)) = true then (some (0, false, ())) else (some (t1.1, true, ()))))
noncomputable def impl_numberOf.e (k : Nat) : FE := { α := ByteArray × Unit, β := (Int × Bool × Unit), args := (lCons aStr lNil), ret := (rMany (lCons (aI .i64) (lCons aB lNil))), f := fun p => impl_numberOf.f k p.1 }
noncomputable def impl_numberOf.c (k : Nat) : List (Nat × CE) := [(36, .fn (strconv_Atoi.e k)), (37, .fn (strings_TrimPrefix.e k)), (14, .fn (strconv_Itoa.e k))]
noncomputable def impl_numberOf.bd : Code := match Tryz.f23.body with | some c => c | none => .skip
noncomputable def impl_numberOf.g (k : Nat) : List (Nat × LE) := []
theorem impl_numberOf.link (k : Nat) (a0 : ByteArray) : evFun (mkCx Tryz.prog (impl_numberOf.c k) (impl_numberOf.g k) : Cx (Int × Bool × Unit)) Tryz.f23 ((impl_numberOf.e k).args.enc (a0, ())) (impl_numberOf.e k).ret.dec = impl_numberOf.f k a0 := by kernel_rfl
theorem impl_numberOf.ok1 (k : Nat) (hC : AllFun Tryz.prog (impl_numberOf.c k)) : Fun Tryz.prog 23 (impl_numberOf.e k).G := fun_ok mixed (body := impl_numberOf.bd) Tryz.func23 (by kernel_rfl) (by kernel_rfl) (by kernel_rfl) hC (loops_all 0 (by kernel_rfl) fun i hi => absurd hi (Nat.not_lt_zero i)) (impl_numberOf.e k) (fun a => Nat.le_of_ble_eq_true (by kernel_rfl)) fun a b h => (impl_numberOf.link k a.1).trans h
theorem impl_numberOf.ok (k : Nat) : Fun Tryz.prog 23 (impl_numberOf.e k).G := impl_numberOf.ok1 k ⟨strconv_Atoi.ok k, strings_TrimPrefix.ok k, strconv_Itoa.ok k, trivial⟩

noncomputable def impl_ParsePlane.H6 : Hd := ⟨[], [2, 5, 17, 18, 19], [2, 5], [], []⟩
@[reducible] def impl_ParsePlane.A6 : Type := ((Unit × Unit × Unit × Int × Int × Unit) × (S4 × S4 × (List ByteArray) × Unit))
noncomputable def impl_ParsePlane.Z6 : SC impl_ParsePlane.A6 := sC impl_ParsePlane.H6 (eCons 2 (tRef 2 0) (eCons 5 (tRef 5 0) (eCons 17 (tOsl 1000017) (eCons 18 (tP (aI .i64)) (eCons 19 (tP (aI .i64)) eNil))))) (bCons 2 (xVr cS4) (bCons 5 (xVr cS4) (bCons 1000017 (xRow 9 .str) bNil)))
@[reducible] def impl_ParsePlane.B6 : Type := ((Unit × Bool × Unit) × (S4 × Unit)) ⊕ ((Unit × Unit × Unit) × (S4 × S4 × Unit))
noncomputable def impl_ParsePlane.X6 : XC impl_ParsePlane.B6 := xOr (xRet (sC ⟨[], [2, 3], [2], [], []⟩ (eCons 2 (tRef 2 0) (eCons 3 (tP aB) eNil)) (bCons 2 (xVr cS4) bNil))) (xExit 0 (sC ⟨[], [2, 5], [2, 5], [], []⟩ (eCons 2 (tRef 2 0) (eCons 5 (tRef 5 0) eNil)) (bCons 2 (xVr cS4) (bCons 5 (xVr cS4) bNil))))
noncomputable def impl_ParsePlane.s6 (k : Nat)  (J : Int → Int → S4 → S4 → (List ByteArray) → Option impl_ParsePlane.B6) (x18 : Int) (x19 : Int) (b2 : S4) (b5 : S4) (b1000017 : List ByteArray) : Option impl_ParsePlane.B6 :=
  if (decide (x19 < x18)) = true then (if 0 ≤ x19 then (if x19 < (b1000017.length : Int) then (if x19.toNat < b1000017.length then ((impl_numberOf.f k  (b1000017.getD x19.toNat default)).bind fun t2 => if (!t2.2.1) = true then (some (.inl (((), false, ()), ((⟨0, 0, 0, 0⟩ : S4), ())))) else (if 0 ≤ x19 then (if x19 < 4 then (if x19 = 0 then (J x18 (W (x19 + 1)) b2 (⟨t2.1, b5.b, b5.c, b5.d⟩ : S4) b1000017) else (if x19 = 1 then (J x18 (W (x19 + 1)) b2 (⟨b5.a, t2.1, b5.c, b5.d⟩ : S4) b1000017) else (if x19 = 2 then (J x18 (W (x19 + 1)) b2 (⟨b5.a, b5.b, t2.1, b5.d⟩ : S4) b1000017) else (if x19 = 3 then (J x18 (W (x19 + 1)) b2 (⟨b5.a, b5.b, b5.c, t2.1⟩ : S4) b1000017) else none)))) else none) else none)) else none) else none) else none) else (some (.inr (((), (), ()), (b2, b5, ()))))
noncomputable def impl_ParsePlane.l6 (k : Nat)  : Nat → Int → Int → S4 → S4 → (List ByteArray) → Option impl_ParsePlane.B6
  | 0, _, _, _, _, _ => none
  | n + 1, x18, x19, b2, b5, b1000017 => impl_ParsePlane.s6 k (impl_ParsePlane.l6 k n) x18 x19 b2 b5 b1000017
noncomputable def impl_ParsePlane.f (k : Nat) (a0 : ByteArray) : Option (S4 × Bool × Unit) :=
  (strings_Split.f k  a0 (⟨#[32]⟩ : ByteArray)).bind fun t1 => if ((t1.length : Int) != 4) = true then (some ((⟨0, 0, 0, 0⟩ : S4), false, ())) else ((impl_ParsePlane.l6 k k (t1.length : Int) 0 (⟨0, 0, 0, 0⟩ : S4) (⟨0, 0, 0, 0⟩ : S4) t1).bind fun | .inl r3 => (some (r3.2.1, r3.1.2.1, ())) | .inr x4 => ((impl_PlaneOk.f k  x4.2.2.1).bind fun t5 => if (!t5) = true then (some ((⟨0, 0, 0, 0⟩ : S4), false, ())) else (some (x4.2.2.1, true, ()))))
noncomputable def impl_ParsePlane.e (k : Nat) : FE := { α := ByteArray × Unit, β := (S4 × Bool × Unit), args := (lCons aStr lNil), ret := (rMany (lCons aS4 (lCons aB lNil))), f := fun p => impl_ParsePlane.f k p.1 }
noncomputable def impl_ParsePlane.c (k : Nat) : List (Nat × CE) := [(22, .fn (strings_Split.e k)), (23, .fn (impl_numberOf.e k)), (9, .fn (impl_PlaneOk.e k))]
noncomputable def impl_ParsePlane.bd : Code := match Tryz.f10.body with | some c => c | none => .skip
noncomputable def impl_ParsePlane.e6 (k : Nat) : LE := { H := impl_ParsePlane.H6, α := impl_ParsePlane.A6, β := impl_ParsePlane.B6, st := impl_ParsePlane.Z6, xt := impl_ParsePlane.X6, f := fun p => impl_ParsePlane.l6 k k p.1.2.2.2.1 p.1.2.2.2.2.1 p.2.1 p.2.2.1 p.2.2.2.1 }
noncomputable def impl_ParsePlane.g (k : Nat) : List (Nat × LE) := [(6, impl_ParsePlane.e6 k)]
theorem impl_ParsePlane.t6 (k : Nat) (I : S2 → Option impl_ParsePlane.B6) (x18 : Int) (x19 : Int) (b2 : S4) (b5 : S4) (b1000017 : List ByteArray) : stepOf (mkCx Tryz.prog (impl_ParsePlane.c k) (impl_ParsePlane.g k) : Cx impl_ParsePlane.B6) (loopAt impl_ParsePlane.bd 0) impl_ParsePlane.H6 impl_ParsePlane.X6.dec I (impl_ParsePlane.Z6.enc (((), (), (), x18, x19, ()), (b2, b5, b1000017, ()))) = impl_ParsePlane.s6 k (fun x18 x19 b2 b5 b1000017 => I (impl_ParsePlane.Z6.enc (((), (), (), x18, x19, ()), (b2, b5, b1000017, ())))) x18 x19 b2 b5 b1000017 := by kernel_rfl
theorem impl_ParsePlane.i6 (k : Nat) : ∀ (n : Nat) (x18 : Int) (x19 : Int) (b2 : S4) (b5 : S4) (b1000017 : List ByteArray), iter (evCode (mkCx Tryz.prog (impl_ParsePlane.c k) (impl_ParsePlane.g k) : Cx impl_ParsePlane.B6) (loopAt impl_ParsePlane.bd 0)) impl_ParsePlane.H6 impl_ParsePlane.X6.dec n (impl_ParsePlane.Z6.enc (((), (), (), x18, x19, ()), (b2, b5, b1000017, ()))) = impl_ParsePlane.l6 k n x18 x19 b2 b5 b1000017
  | 0, _, _, _, _, _ => rfl
  | n + 1, x18, x19, b2, b5, b1000017 => ((iter_step _ _ _ _ n _).trans (impl_ParsePlane.t6 k _ x18 x19 b2 b5 b1000017)).trans (congrArg (fun J => impl_ParsePlane.s6 k J x18 x19 b2 b5 b1000017) (funext fun x18 => funext fun x19 => funext fun b2 => funext fun b5 => funext fun b1000017 => impl_ParsePlane.i6 k n x18 x19 b2 b5 b1000017))
theorem impl_ParsePlane.to6 (k : Nat) (hC : AllFun Tryz.prog (impl_ParsePlane.c k)) : LoopTo Tryz.prog 50 (impl_ParsePlane.e6 k) (loopAt impl_ParsePlane.bd 0) := loop_to mixed hC (by kernel_rfl) (loops_all 0 (by kernel_rfl) fun i hi => absurd hi (Nat.not_lt_zero i)) fun a b h => ⟨k, (impl_ParsePlane.i6 k k a.1.2.2.2.1 a.1.2.2.2.2.1 a.2.1 a.2.2.1 a.2.2.2.1).trans h⟩
theorem impl_ParsePlane.link (k : Nat) (a0 : ByteArray) : evFun (mkCx Tryz.prog (impl_ParsePlane.c k) (impl_ParsePlane.g k) : Cx (S4 × Bool × Unit)) Tryz.f10 ((impl_ParsePlane.e k).args.enc (a0, ())) (impl_ParsePlane.e k).ret.dec = impl_ParsePlane.f k a0 := by kernel_rfl
theorem impl_ParsePlane.ok1 (k : Nat) (hC : AllFun Tryz.prog (impl_ParsePlane.c k)) : Fun Tryz.prog 10 (impl_ParsePlane.e k).G := fun_ok mixed (body := impl_ParsePlane.bd) Tryz.func10 (by kernel_rfl) (by kernel_rfl) (by kernel_rfl) hC (loops_all 1 (by kernel_rfl) fun i hi => by obtain rfl : i = 0 := Nat.lt_one_iff.1 hi; exact ⟨impl_ParsePlane.e6 k, by kernel_rfl, impl_ParsePlane.to6 k hC⟩) (impl_ParsePlane.e k) (fun a => Nat.le_of_ble_eq_true (by kernel_rfl)) fun a b h => (impl_ParsePlane.link k a.1).trans h
theorem impl_ParsePlane.ok (k : Nat) : Fun Tryz.prog 10 (impl_ParsePlane.e k).G := impl_ParsePlane.ok1 k ⟨strings_Split.ok k, impl_numberOf.ok k, impl_PlaneOk.ok k, trivial⟩

noncomputable def laws_FnPlaneTexts.f (k : Nat) (a0 : List Int) : Option Bool :=
  (laws_big.f k  a0).bind fun t1 => if t1 = true then (some true) else ((spec_DrawCmpPlane.f k  a0).bind fun t2 => (impl_PlaneText.f k  t2.1).bind fun t3 => (impl_CmpPlane.f k  t2.1 t2.2.1).bind fun t4 => (impl_CmpPlane.f k  t2.2.1 t2.1).bind fun t5 => if (t4 != (W (0 - t5))) = true then (some false) else (if (!((t4 == 0) == ((t2.1.a == t2.2.1.a) && ((t2.1.b == t2.2.1.b) && ((t2.1.c == t2.2.1.c) && (t2.1.d == t2.2.1.d)))))) = true then (some false) else ((spec_PlaneOk.f k  t2.1).bind fun t6 => if (!t6) = true then (if ((t3.toList == (⟨#[]⟩ : ByteArray).toList)) = true then ((impl_PlaneOk.f k  t2.1).bind fun t7 => some (!t7)) else (some false)) else ((impl_ParsePlane.f k  t3).bind fun t8 => if t8.2.1 = true then (some ((t8.1.a == t2.1.a) && ((t8.1.b == t2.1.b) && ((t8.1.c == t2.1.c) && (t8.1.d == t2.1.d))))) else (some false)))))
noncomputable def laws_FnPlaneTexts.e (k : Nat) : FE := { α := (List Int) × Unit, β := Bool, args := (lCons (aSl (.i .u8)) lNil), ret := (rOne aB), f := fun p => laws_FnPlaneTexts.f k p.1 }
noncomputable def laws_FnPlaneTexts.c (k : Nat) : List (Nat × CE) := [(4, .fn (laws_big.e k)), (5, .fn (spec_DrawCmpPlane.e k)), (6, .fn (impl_PlaneText.e k)), (7, .fn (impl_CmpPlane.e k)), (8, .fn (spec_PlaneOk.e k)), (9, .fn (impl_PlaneOk.e k)), (10, .fn (impl_ParsePlane.e k))]
noncomputable def laws_FnPlaneTexts.bd : Code := match Tryz.f3.body with | some c => c | none => .skip
noncomputable def laws_FnPlaneTexts.g (k : Nat) : List (Nat × LE) := []
theorem laws_FnPlaneTexts.link (k : Nat) (a0 : List Int) : evFun (mkCx Tryz.prog (laws_FnPlaneTexts.c k) (laws_FnPlaneTexts.g k) : Cx Bool) Tryz.f3 ((laws_FnPlaneTexts.e k).args.enc (a0, ())) (laws_FnPlaneTexts.e k).ret.dec = laws_FnPlaneTexts.f k a0 := by kernel_rfl
theorem laws_FnPlaneTexts.ok1 (k : Nat) (hC : AllFun Tryz.prog (laws_FnPlaneTexts.c k)) : Fun Tryz.prog 3 (laws_FnPlaneTexts.e k).G := fun_ok mixed (body := laws_FnPlaneTexts.bd) Tryz.func3 (by kernel_rfl) (by kernel_rfl) (by kernel_rfl) hC (loops_all 0 (by kernel_rfl) fun i hi => absurd hi (Nat.not_lt_zero i)) (laws_FnPlaneTexts.e k) (fun a => Nat.le_of_ble_eq_true (by kernel_rfl)) fun a b h => (laws_FnPlaneTexts.link k a.1).trans h
theorem laws_FnPlaneTexts.ok (k : Nat) : Fun Tryz.prog 3 (laws_FnPlaneTexts.e k).G := laws_FnPlaneTexts.ok1 k ⟨laws_big.ok k, spec_DrawCmpPlane.ok k, impl_PlaneText.ok k, impl_CmpPlane.ok k, spec_PlaneOk.ok k, impl_PlaneOk.ok k, impl_ParsePlane.ok k, trivial⟩

end Go.Proofs.YtalkkenkeilmpaaGreatDoor.G
