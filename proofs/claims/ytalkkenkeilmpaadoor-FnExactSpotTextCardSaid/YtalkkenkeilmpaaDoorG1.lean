/- Go functions told as plain Lean functions; that the code does what these tell. Printed by a program of the session (evp.py). -/
import Derived.Test.YtalkkenkeilmpaaDoorEv16
import Derived.Test.YtalkkenkeilmpaaDoorG0
namespace Go.Proofs.YtalkkenkeilmpaaDoor.G
open Go Go.RowKit Go.Proofs Go.Proofs.YtalkkenkeilmpaaDoor.Ev
set_option linter.unusedVariables false
set_option maxRecDepth 100000

noncomputable def spec_PlaneOk.f (k : Nat) (a0 : S4) : Option Bool :=
  (spec_l3In.f k  a0).bind fun t1 => if t1 = true then (if (a0.a != 0) = true then ((spec_l3Gcd.f k  a0.a a0.b).bind fun t2 => (spec_l3Gcd.f k  a0.c a0.d).bind fun t3 => (spec_l3Gcd.f k  t2 t3).bind fun t4 => some (t4 == 1)) else (if (a0.b != 0) = true then ((spec_l3Gcd.f k  a0.a a0.b).bind fun t5 => (spec_l3Gcd.f k  a0.c a0.d).bind fun t6 => (spec_l3Gcd.f k  t5 t6).bind fun t7 => some (t7 == 1)) else (if (a0.c != 0) = true then ((spec_l3Gcd.f k  a0.a a0.b).bind fun t8 => (spec_l3Gcd.f k  a0.c a0.d).bind fun t9 => (spec_l3Gcd.f k  t8 t9).bind fun t10 => some (t10 == 1)) else (some false)))) else (some false)
noncomputable def spec_PlaneOk.e (k : Nat) : FE := { α := S4 × Unit, β := Bool, args := (lCons aS4 lNil), ret := (rOne aB), f := fun p => spec_PlaneOk.f k p.1 }
noncomputable def spec_PlaneOk.c (k : Nat) : List (Nat × CE) := [(36, .fn (spec_l3In.e k)), (27, .fn (spec_l3Gcd.e k))]
noncomputable def spec_PlaneOk.bd : Code := match Tryd.f20.body with | some c => c | none => .skip
noncomputable def spec_PlaneOk.g (k : Nat) : List (Nat × LE) := []
theorem spec_PlaneOk.link (k : Nat) (a0 : S4) : evFun (mkCx Tryd.prog (spec_PlaneOk.c k) (spec_PlaneOk.g k) : Cx Bool) Tryd.f20 ((spec_PlaneOk.e k).args.enc (a0, ())) (spec_PlaneOk.e k).ret.dec = spec_PlaneOk.f k a0 := by kernel_rfl
theorem spec_PlaneOk.ok1 (k : Nat) (hC : AllFun Tryd.prog (spec_PlaneOk.c k)) : Fun Tryd.prog 20 (spec_PlaneOk.e k).G := fun_ok mixed (body := spec_PlaneOk.bd) Tryd.func20 (by kernel_rfl) (by kernel_rfl) (by kernel_rfl) hC (loops_all 0 (by kernel_rfl) fun i hi => absurd hi (Nat.not_lt_zero i)) (spec_PlaneOk.e k) (fun a => Nat.le_of_ble_eq_true (by kernel_rfl)) fun a b h => (spec_PlaneOk.link k a.1).trans h
theorem spec_PlaneOk.ok (k : Nat) : Fun Tryd.prog 20 (spec_PlaneOk.e k).G := spec_PlaneOk.ok1 k ⟨spec_l3In.ok k, spec_l3Gcd.ok k, trivial⟩

noncomputable def spec_PlaneText.f (k : Nat) (a0 : S4) : Option ByteArray :=
  (spec_PlaneOk.f k  a0).bind fun t1 => if (!t1) = true then (some (⟨#[]⟩ : ByteArray)) else ((spec_l3Text.f k  a0.a).bind fun t2 => if lt47 (t2.size + (⟨#[32]⟩ : ByteArray).size) = true then ((spec_l3Text.f k  a0.b).bind fun t3 => if lt47 ((t2 ++ (⟨#[32]⟩ : ByteArray)).size + t3.size) = true then (if lt47 (((t2 ++ (⟨#[32]⟩ : ByteArray)) ++ t3).size + (⟨#[32]⟩ : ByteArray).size) = true then ((spec_l3Text.f k  a0.c).bind fun t4 => if lt47 ((((t2 ++ (⟨#[32]⟩ : ByteArray)) ++ t3) ++ (⟨#[32]⟩ : ByteArray)).size + t4.size) = true then (if lt47 (((((t2 ++ (⟨#[32]⟩ : ByteArray)) ++ t3) ++ (⟨#[32]⟩ : ByteArray)) ++ t4).size + (⟨#[32]⟩ : ByteArray).size) = true then ((spec_l3Text.f k  a0.d).bind fun t5 => if lt47 ((((((t2 ++ (⟨#[32]⟩ : ByteArray)) ++ t3) ++ (⟨#[32]⟩ : ByteArray)) ++ t4) ++ (⟨#[32]⟩ : ByteArray)).size + t5.size) = true then (some ((((((t2 ++ (⟨#[32]⟩ : ByteArray)) ++ t3) ++ (⟨#[32]⟩ : ByteArray)) ++ t4) ++ (⟨#[32]⟩ : ByteArray)) ++ t5)) else none) else none) else none) else none) else none) else none)
noncomputable def spec_PlaneText.e (k : Nat) : FE := { α := S4 × Unit, β := ByteArray, args := (lCons aS4 lNil), ret := (rOne aStr), f := fun p => spec_PlaneText.f k p.1 }
noncomputable def spec_PlaneText.c (k : Nat) : List (Nat × CE) := [(20, .fn (spec_PlaneOk.e k)), (16, .fn (spec_l3Text.e k))]
noncomputable def spec_PlaneText.bd : Code := match Tryd.f9.body with | some c => c | none => .skip
noncomputable def spec_PlaneText.g (k : Nat) : List (Nat × LE) := []
theorem spec_PlaneText.link (k : Nat) (a0 : S4) : evFun (mkCx Tryd.prog (spec_PlaneText.c k) (spec_PlaneText.g k) : Cx ByteArray) Tryd.f9 ((spec_PlaneText.e k).args.enc (a0, ())) (spec_PlaneText.e k).ret.dec = spec_PlaneText.f k a0 := by kernel_rfl
theorem spec_PlaneText.ok1 (k : Nat) (hC : AllFun Tryd.prog (spec_PlaneText.c k)) : Fun Tryd.prog 9 (spec_PlaneText.e k).G := fun_ok mixed (body := spec_PlaneText.bd) Tryd.func9 (by kernel_rfl) (by kernel_rfl) (by kernel_rfl) hC (loops_all 0 (by kernel_rfl) fun i hi => absurd hi (Nat.not_lt_zero i)) (spec_PlaneText.e k) (fun a => Nat.le_of_ble_eq_true (by kernel_rfl)) fun a b h => (spec_PlaneText.link k a.1).trans h
theorem spec_PlaneText.ok (k : Nat) : Fun Tryd.prog 9 (spec_PlaneText.e k).G := spec_PlaneText.ok1 k ⟨spec_PlaneOk.ok k, spec_l3Text.ok k, trivial⟩

noncomputable def laws_toPlane.f (k : Nat) (a0 : S4) : Option S4 :=
  some a0
noncomputable def laws_toPlane.e (k : Nat) : FE := { α := S4 × Unit, β := S4, args := (lCons aS4 lNil), ret := (rOne aS4), f := fun p => laws_toPlane.f k p.1 }
noncomputable def laws_toPlane.c (k : Nat) : List (Nat × CE) := []
noncomputable def laws_toPlane.bd : Code := match Tryd.f10.body with | some c => c | none => .skip
noncomputable def laws_toPlane.g (k : Nat) : List (Nat × LE) := []
theorem laws_toPlane.link (k : Nat) (a0 : S4) : evFun (mkCx Tryd.prog (laws_toPlane.c k) (laws_toPlane.g k) : Cx S4) Tryd.f10 ((laws_toPlane.e k).args.enc (a0, ())) (laws_toPlane.e k).ret.dec = laws_toPlane.f k a0 := by kernel_rfl
theorem laws_toPlane.ok1 (k : Nat) (hC : AllFun Tryd.prog (laws_toPlane.c k)) : Fun Tryd.prog 10 (laws_toPlane.e k).G := fun_ok mixed (body := laws_toPlane.bd) Tryd.func10 (by kernel_rfl) (by kernel_rfl) (by kernel_rfl) hC (loops_all 0 (by kernel_rfl) fun i hi => absurd hi (Nat.not_lt_zero i)) (laws_toPlane.e k) (fun a => Nat.le_of_ble_eq_true (by kernel_rfl)) fun a b h => (laws_toPlane.link k a.1).trans h
theorem laws_toPlane.ok (k : Nat) : Fun Tryd.prog 10 (laws_toPlane.e k).G := laws_toPlane.ok1 k trivial

noncomputable def impl_isCoef.f (k : Nat) (a0 : Int) : Option Bool :=
  (impl_inRange.f k  a0 (-500) 500).bind fun t1 => some t1
noncomputable def impl_isCoef.e (k : Nat) : FE := { α := Int × Unit, β := Bool, args := (lCons (aI .i64) lNil), ret := (rOne aB), f := fun p => impl_isCoef.f k p.1 }
noncomputable def impl_isCoef.c (k : Nat) : List (Nat × CE) := [(30, .fn (impl_inRange.e k))]
noncomputable def impl_isCoef.bd : Code := match Tryd.f37.body with | some c => c | none => .skip
noncomputable def impl_isCoef.g (k : Nat) : List (Nat × LE) := []
theorem impl_isCoef.link (k : Nat) (a0 : Int) : evFun (mkCx Tryd.prog (impl_isCoef.c k) (impl_isCoef.g k) : Cx Bool) Tryd.f37 ((impl_isCoef.e k).args.enc (a0, ())) (impl_isCoef.e k).ret.dec = impl_isCoef.f k a0 := by kernel_rfl
theorem impl_isCoef.ok1 (k : Nat) (hC : AllFun Tryd.prog (impl_isCoef.c k)) : Fun Tryd.prog 37 (impl_isCoef.e k).G := fun_ok mixed (body := impl_isCoef.bd) Tryd.func37 (by kernel_rfl) (by kernel_rfl) (by kernel_rfl) hC (loops_all 0 (by kernel_rfl) fun i hi => absurd hi (Nat.not_lt_zero i)) (impl_isCoef.e k) (fun a => Nat.le_of_ble_eq_true (by kernel_rfl)) fun a b h => (impl_isCoef.link k a.1).trans h
theorem impl_isCoef.ok (k : Nat) : Fun Tryd.prog 37 (impl_isCoef.e k).G := impl_isCoef.ok1 k ⟨impl_inRange.ok k, trivial⟩

noncomputable def impl_PlaneOk.f (k : Nat) (a0 : S4) : Option Bool :=
  (impl_isCoef.f k  a0.a).bind fun t1 => if (!t1) = true then (some false) else ((impl_isCoef.f k  a0.b).bind fun t2 => if (!t2) = true then (some false) else ((impl_isCoef.f k  a0.c).bind fun t3 => if (!t3) = true then (some false) else ((impl_isCoef.f k  a0.d).bind fun t4 => if (!t4) = true then (some false) else (if (a0.a != 0) = true then ((impl_divisor.f k  ([a0.a, a0.b, a0.c, a0.d] : List Int)).bind fun t5 => some (t5 == 1)) else (if (a0.b != 0) = true then ((impl_divisor.f k  ([a0.a, a0.b, a0.c, a0.d] : List Int)).bind fun t6 => some (t6 == 1)) else (if (a0.c != 0) = true then ((impl_divisor.f k  ([a0.a, a0.b, a0.c, a0.d] : List Int)).bind fun t7 => some (t7 == 1)) else (some false)))))))
noncomputable def impl_PlaneOk.e (k : Nat) : FE := { α := S4 × Unit, β := Bool, args := (lCons aS4 lNil), ret := (rOne aB), f := fun p => impl_PlaneOk.f k p.1 }
noncomputable def impl_PlaneOk.c (k : Nat) : List (Nat × CE) := [(37, .fn (impl_isCoef.e k)), (31, .fn (impl_divisor.e k))]
noncomputable def impl_PlaneOk.bd : Code := match Tryd.f21.body with | some c => c | none => .skip
noncomputable def impl_PlaneOk.g (k : Nat) : List (Nat × LE) := []
theorem impl_PlaneOk.link (k : Nat) (a0 : S4) : evFun (mkCx Tryd.prog (impl_PlaneOk.c k) (impl_PlaneOk.g k) : Cx Bool) Tryd.f21 ((impl_PlaneOk.e k).args.enc (a0, ())) (impl_PlaneOk.e k).ret.dec = impl_PlaneOk.f k a0 := by kernel_rfl
theorem impl_PlaneOk.ok1 (k : Nat) (hC : AllFun Tryd.prog (impl_PlaneOk.c k)) : Fun Tryd.prog 21 (impl_PlaneOk.e k).G := fun_ok mixed (body := impl_PlaneOk.bd) Tryd.func21 (by kernel_rfl) (by kernel_rfl) (by kernel_rfl) hC (loops_all 0 (by kernel_rfl) fun i hi => absurd hi (Nat.not_lt_zero i)) (impl_PlaneOk.e k) (fun a => Nat.le_of_ble_eq_true (by kernel_rfl)) fun a b h => (impl_PlaneOk.link k a.1).trans h
theorem impl_PlaneOk.ok (k : Nat) : Fun Tryd.prog 21 (impl_PlaneOk.e k).G := impl_PlaneOk.ok1 k ⟨impl_isCoef.ok k, impl_divisor.ok k, trivial⟩

noncomputable def impl_PlaneText.H5 : Hd := ⟨[(3, 9, .str)], [3, 17, 18], [], [], []⟩
@[reducible] def impl_PlaneText.A5 : Type := ((Unit × S4 × Int × Unit) × ((List ByteArray) × Unit))
noncomputable def impl_PlaneText.Z5 : SC impl_PlaneText.A5 := sC impl_PlaneText.H5 (eCons 3 (tOsl 1000003) (eCons 17 (tP aS4) (eCons 18 (tP (aI .i64)) eNil))) (bCons 1000003 (xRow 9 .str) bNil)
@[reducible] def impl_PlaneText.B5 : Type := ((Unit × Unit) × ((List ByteArray) × Unit))
noncomputable def impl_PlaneText.X5 : XC impl_PlaneText.B5 := xExit 0 (sC ⟨[], [3], [], [], []⟩ (eCons 3 (tOsl 1000003) eNil) (bCons 1000003 (xRow 9 .str) bNil))
noncomputable def impl_PlaneText.s5 (k : Nat)  (J : S4 → Int → (List ByteArray) → Option impl_PlaneText.B5) (x17 : S4) (x18 : Int) (b1000003 : List ByteArray) : Option impl_PlaneText.B5 :=
  if (decide (x18 < 4)) = true then (if 0 ≤ x18 then (if x18 < 4 then ((strconv_Itoa.f k  (sel [x17.a, x17.b, x17.c, x17.d] x18)).bind fun t2 => if lt47 (b1000003.length + ([t2] : List ByteArray).length) = true then (J x17 (W (x18 + 1)) (b1000003 ++ ([t2] : List ByteArray))) else none) else none) else none) else (some (((), ()), (b1000003, ())))
noncomputable def impl_PlaneText.l5 (k : Nat)  : Nat → S4 → Int → (List ByteArray) → Option impl_PlaneText.B5
  | 0, _, _, _ => none
  | n + 1, x17, x18, b1000003 => impl_PlaneText.s5 k (impl_PlaneText.l5 k n) x17 x18 b1000003
noncomputable def impl_PlaneText.f (k : Nat) (a0 : S4) : Option ByteArray :=
  (impl_PlaneOk.f k  a0).bind fun t1 => if (!t1) = true then (some (⟨#[]⟩ : ByteArray)) else ((impl_PlaneText.l5 k k a0 0 ([] : List ByteArray)).bind fun x3 => (strings_Join.f k  x3.2.1 (⟨#[32]⟩ : ByteArray)).bind fun t4 => some t4)
noncomputable def impl_PlaneText.e (k : Nat) : FE := { α := S4 × Unit, β := ByteArray, args := (lCons aS4 lNil), ret := (rOne aStr), f := fun p => impl_PlaneText.f k p.1 }
noncomputable def impl_PlaneText.c (k : Nat) : List (Nat × CE) := [(21, .fn (impl_PlaneOk.e k)), (18, .fn (strconv_Itoa.e k)), (19, .fn (strings_Join.e k))]
noncomputable def impl_PlaneText.bd : Code := match Tryd.f11.body with | some c => c | none => .skip
noncomputable def impl_PlaneText.e5 (k : Nat) : LE := { H := impl_PlaneText.H5, α := impl_PlaneText.A5, β := impl_PlaneText.B5, st := impl_PlaneText.Z5, xt := impl_PlaneText.X5, f := fun p => impl_PlaneText.l5 k k p.1.2.1 p.1.2.2.1 p.2.1 }
noncomputable def impl_PlaneText.g (k : Nat) : List (Nat × LE) := [(5, impl_PlaneText.e5 k)]
theorem impl_PlaneText.t5 (k : Nat) (I : S2 → Option impl_PlaneText.B5) (x17 : S4) (x18 : Int) (b1000003 : List ByteArray) : stepOf (mkCx Tryd.prog (impl_PlaneText.c k) (impl_PlaneText.g k) : Cx impl_PlaneText.B5) (loopAt impl_PlaneText.bd 0) impl_PlaneText.H5 impl_PlaneText.X5.dec I (impl_PlaneText.Z5.enc (((), x17, x18, ()), (b1000003, ()))) = impl_PlaneText.s5 k (fun x17 x18 b1000003 => I (impl_PlaneText.Z5.enc (((), x17, x18, ()), (b1000003, ())))) x17 x18 b1000003 := by kernel_rfl
theorem impl_PlaneText.i5 (k : Nat) : ∀ (n : Nat) (x17 : S4) (x18 : Int) (b1000003 : List ByteArray), iter (evCode (mkCx Tryd.prog (impl_PlaneText.c k) (impl_PlaneText.g k) : Cx impl_PlaneText.B5) (loopAt impl_PlaneText.bd 0)) impl_PlaneText.H5 impl_PlaneText.X5.dec n (impl_PlaneText.Z5.enc (((), x17, x18, ()), (b1000003, ()))) = impl_PlaneText.l5 k n x17 x18 b1000003
  | 0, _, _, _ => rfl
  | n + 1, x17, x18, b1000003 => ((iter_step _ _ _ _ n _).trans (impl_PlaneText.t5 k _ x17 x18 b1000003)).trans (congrArg (fun J => impl_PlaneText.s5 k J x17 x18 b1000003) (funext fun x17 => funext fun x18 => funext fun b1000003 => impl_PlaneText.i5 k n x17 x18 b1000003))
theorem impl_PlaneText.to5 (k : Nat) (hC : AllFun Tryd.prog (impl_PlaneText.c k)) : LoopTo Tryd.prog 29 (impl_PlaneText.e5 k) (loopAt impl_PlaneText.bd 0) := loop_to mixed hC (by kernel_rfl) (loops_all 0 (by kernel_rfl) fun i hi => absurd hi (Nat.not_lt_zero i)) fun a b h => ⟨k, (impl_PlaneText.i5 k k a.1.2.1 a.1.2.2.1 a.2.1).trans h⟩
theorem impl_PlaneText.link (k : Nat) (a0 : S4) : evFun (mkCx Tryd.prog (impl_PlaneText.c k) (impl_PlaneText.g k) : Cx ByteArray) Tryd.f11 ((impl_PlaneText.e k).args.enc (a0, ())) (impl_PlaneText.e k).ret.dec = impl_PlaneText.f k a0 := by kernel_rfl
theorem impl_PlaneText.ok1 (k : Nat) (hC : AllFun Tryd.prog (impl_PlaneText.c k)) : Fun Tryd.prog 11 (impl_PlaneText.e k).G := fun_ok mixed (body := impl_PlaneText.bd) Tryd.func11 (by kernel_rfl) (by kernel_rfl) (by kernel_rfl) hC (loops_all 1 (by kernel_rfl) fun i hi => by obtain rfl : i = 0 := Nat.lt_one_iff.1 hi; exact ⟨impl_PlaneText.e5 k, by kernel_rfl, impl_PlaneText.to5 k hC⟩) (impl_PlaneText.e k) (fun a => Nat.le_of_ble_eq_true (by kernel_rfl)) fun a b h => (impl_PlaneText.link k a.1).trans h
theorem impl_PlaneText.ok (k : Nat) : Fun Tryd.prog 11 (impl_PlaneText.e k).G := impl_PlaneText.ok1 k ⟨impl_PlaneOk.ok k, strconv_Itoa.ok k, strings_Join.ok k, trivial⟩

noncomputable def laws_FnExactPlaneText.f (k : Nat) (a0 : S4) : Option Bool :=
  (laws_toPlane.f k  a0).bind fun t1 => (spec_PlaneText.f k  t1).bind fun t2 => (laws_toPlane.f k  a0).bind fun t3 => (impl_PlaneText.f k  t3).bind fun t4 => if (!(t4.toList == t2.toList)) = true then (some false) else (some true)
noncomputable def laws_FnExactPlaneText.e (k : Nat) : FE := { α := S4 × Unit, β := Bool, args := (lCons aS4 lNil), ret := (rOne aB), f := fun p => laws_FnExactPlaneText.f k p.1 }
noncomputable def laws_FnExactPlaneText.c (k : Nat) : List (Nat × CE) := [(10, .fn (laws_toPlane.e k)), (9, .fn (spec_PlaneText.e k)), (11, .fn (impl_PlaneText.e k))]
noncomputable def laws_FnExactPlaneText.bd : Code := match Tryd.f4.body with | some c => c | none => .skip
noncomputable def laws_FnExactPlaneText.g (k : Nat) : List (Nat × LE) := []
theorem laws_FnExactPlaneText.link (k : Nat) (a0 : S4) : evFun (mkCx Tryd.prog (laws_FnExactPlaneText.c k) (laws_FnExactPlaneText.g k) : Cx Bool) Tryd.f4 ((laws_FnExactPlaneText.e k).args.enc (a0, ())) (laws_FnExactPlaneText.e k).ret.dec = laws_FnExactPlaneText.f k a0 := by kernel_rfl
theorem laws_FnExactPlaneText.ok1 (k : Nat) (hC : AllFun Tryd.prog (laws_FnExactPlaneText.c k)) : Fun Tryd.prog 4 (laws_FnExactPlaneText.e k).G := fun_ok mixed (body := laws_FnExactPlaneText.bd) Tryd.func4 (by kernel_rfl) (by kernel_rfl) (by kernel_rfl) hC (loops_all 0 (by kernel_rfl) fun i hi => absurd hi (Nat.not_lt_zero i)) (laws_FnExactPlaneText.e k) (fun a => Nat.le_of_ble_eq_true (by kernel_rfl)) fun a b h => (laws_FnExactPlaneText.link k a.1).trans h
theorem laws_FnExactPlaneText.ok (k : Nat) : Fun Tryd.prog 4 (laws_FnExactPlaneText.e k).G := laws_FnExactPlaneText.ok1 k ⟨laws_toPlane.ok k, spec_PlaneText.ok k, impl_PlaneText.ok k, trivial⟩

end Go.Proofs.YtalkkenkeilmpaaDoor.G
