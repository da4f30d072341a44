/- Go functions told as plain Lean functions; that the code does what these tell. Printed by a program of the session (evp.py). -/
import Derived.Test.YtfgaeenlnkioaaaEv16
import Derived.Test.YtfgaeenlnkioaaaG2
namespace Go.Proofs.Ytfgaeenlnkioaaa.G
open Go Go.RowKit Go.Proofs Go.Proofs.Ytfgaeenlnkioaaa.Ev
set_option linter.unusedVariables false
set_option maxRecDepth 100000

noncomputable def impl_SpotOk.H4 : Hd := ⟨[], [1, 15, 16], [1]⟩
@[reducible] def impl_SpotOk.A4 : Type := ((Unit × S3 × Int × Unit) × (S4 × Unit))
noncomputable def impl_SpotOk.Z4 : SC impl_SpotOk.A4 := sC impl_SpotOk.H4 (eCons 1 (tRef 1 0) (eCons 15 (tP aS3) (eCons 16 (tP (aI .i64)) eNil))) (bCons 1 (xVr cS4) bNil)
@[reducible] def impl_SpotOk.B4 : Type := ((Bool × Unit) × (Unit)) ⊕ ((Unit × Unit) × (S4 × Unit))
noncomputable def impl_SpotOk.X4 : XC impl_SpotOk.B4 := xOr (xRet (sC ⟨[], [2], []⟩ (eCons 2 (tP aB) eNil) bNil)) (xExit 0 (sC ⟨[], [1], [1]⟩ (eCons 1 (tRef 1 0) eNil) (bCons 1 (xVr cS4) bNil)))
noncomputable def impl_SpotOk.s4 (k : Nat)  (J : S3 → Int → S4 → Option impl_SpotOk.B4) (x15 : S3) (x16 : Int) (b1 : S4) : Option impl_SpotOk.B4 :=
  if (decide (x16 < 3)) = true then (if 0 ≤ x16 then (if x16 < 3 then ((impl_inRange.f k  (sel [x15.x, x15.y, x15.z] x16) (-1000000000) 1000000000).bind fun t2 => if (!t2) = true then (some (.inl ((false, ()), (())))) else (J x15 (W (x16 + 1)) b1)) else none) else none) else (some (.inr (((), ()), (b1, ()))))
noncomputable def impl_SpotOk.l4 (k : Nat)  : Nat → S3 → Int → S4 → Option impl_SpotOk.B4
  | 0, _, _, _ => none
  | n + 1, x15, x16, b1 => impl_SpotOk.s4 k (impl_SpotOk.l4 k n) x15 x16 b1
noncomputable def impl_SpotOk.f (k : Nat) (a0 : S4) : Option Bool :=
  (impl_inRange.f k  a0.d 1 1000000000).bind fun t1 => if (!t1) = true then (some false) else ((impl_SpotOk.l4 k k (⟨a0.a, a0.b, a0.c⟩ : S3) 0 a0).bind fun | .inl r3 => (some r3.1.1) | .inr x4 => ((impl_divisor.f k  ([x4.2.1.a, x4.2.1.b, x4.2.1.c, x4.2.1.d] : List Int)).bind fun t5 => some (t5 == 1)))
noncomputable def impl_SpotOk.e (k : Nat) : FE := { α := S4 × Unit, β := Bool, args := (lCons aS4 lNil), ret := (rOne aB), f := fun p => impl_SpotOk.f k p.1 }
noncomputable def impl_SpotOk.c (k : Nat) : List (Nat × CE) := [(114, .fn (impl_inRange.e k)), (102, .fn (impl_divisor.e k))]
noncomputable def impl_SpotOk.bd : Code := match Try.f86.body with | some c => c | none => .skip
noncomputable def impl_SpotOk.e4 (k : Nat) : LE := { H := impl_SpotOk.H4, α := impl_SpotOk.A4, β := impl_SpotOk.B4, st := impl_SpotOk.Z4, xt := impl_SpotOk.X4, f := fun p => impl_SpotOk.l4 k k p.1.2.1 p.1.2.2.1 p.2.1 }
noncomputable def impl_SpotOk.g (k : Nat) : List (Nat × LE) := [(4, impl_SpotOk.e4 k)]
theorem impl_SpotOk.t4 (k : Nat) (I : S2 → Option impl_SpotOk.B4) (x15 : S3) (x16 : Int) (b1 : S4) : stepOf (mkCx Try.prog (impl_SpotOk.c k) (impl_SpotOk.g k) : Cx impl_SpotOk.B4) (loopAt impl_SpotOk.bd 0) impl_SpotOk.H4 impl_SpotOk.X4.dec I (impl_SpotOk.Z4.enc (((), x15, x16, ()), (b1, ()))) = impl_SpotOk.s4 k (fun x15 x16 b1 => I (impl_SpotOk.Z4.enc (((), x15, x16, ()), (b1, ())))) x15 x16 b1 := by kernel_rfl
theorem impl_SpotOk.i4 (k : Nat) : ∀ (n : Nat) (x15 : S3) (x16 : Int) (b1 : S4), iter (evCode (mkCx Try.prog (impl_SpotOk.c k) (impl_SpotOk.g k) : Cx impl_SpotOk.B4) (loopAt impl_SpotOk.bd 0)) impl_SpotOk.H4 impl_SpotOk.X4.dec n (impl_SpotOk.Z4.enc (((), x15, x16, ()), (b1, ()))) = impl_SpotOk.l4 k n x15 x16 b1
  | 0, _, _, _ => rfl
  | n + 1, x15, x16, b1 => ((iter_step _ _ _ _ n _).trans (impl_SpotOk.t4 k _ x15 x16 b1)).trans (congrArg (fun J => impl_SpotOk.s4 k J x15 x16 b1) (funext fun x15 => funext fun x16 => funext fun b1 => impl_SpotOk.i4 k n x15 x16 b1))
theorem impl_SpotOk.to4 (k : Nat) (hC : AllFun Try.prog (impl_SpotOk.c k)) : LoopTo Try.prog 34 (impl_SpotOk.e4 k) (loopAt impl_SpotOk.bd 0) := loop_to mixed hC (by kernel_rfl) (loops_all 0 (by kernel_rfl) fun i hi => absurd hi (Nat.not_lt_zero i)) fun a b h => ⟨k, (impl_SpotOk.i4 k k a.1.2.1 a.1.2.2.1 a.2.1).trans h⟩
theorem impl_SpotOk.link (k : Nat) (a0 : S4) : evFun (mkCx Try.prog (impl_SpotOk.c k) (impl_SpotOk.g k) : Cx Bool) Try.f86 ((impl_SpotOk.e k).args.enc (a0, ())) (impl_SpotOk.e k).ret.dec = impl_SpotOk.f k a0 := by kernel_rfl
theorem impl_SpotOk.ok1 (k : Nat) (hC : AllFun Try.prog (impl_SpotOk.c k)) : Fun Try.prog 86 (impl_SpotOk.e k).G := fun_ok mixed (body := impl_SpotOk.bd) Try.func86 (by kernel_rfl) (by kernel_rfl) (by kernel_rfl) hC (loops_all 1 (by kernel_rfl) fun i hi => by obtain rfl : i = 0 := Nat.lt_one_iff.1 hi; exact ⟨impl_SpotOk.e4 k, by kernel_rfl, impl_SpotOk.to4 k hC⟩) (impl_SpotOk.e k) (fun a => Nat.le_of_ble_eq_true (by kernel_rfl)) fun a b h => (impl_SpotOk.link k a.1).trans h
theorem impl_SpotOk.ok (k : Nat) : Fun Try.prog 86 (impl_SpotOk.e k).G := impl_SpotOk.ok1 k ⟨impl_inRange.ok k, impl_divisor.ok k, trivial⟩

noncomputable def impl_sideAt.f (k : Nat) (a0 : S4) (a1 : S4) : Option Int :=
  (impl_sign.f k  (W ((W ((W ((W (a0.a * a1.a)) + (W (a0.b * a1.b)))) + (W (a0.c * a1.c)))) + (W (a0.d * a1.d))))).bind fun t1 => some t1
noncomputable def impl_sideAt.e (k : Nat) : FE := { α := S4 × S4 × Unit, β := Int, args := (lCons aS4 (lCons aS4 lNil)), ret := (rOne (aI .i64)), f := fun p => impl_sideAt.f k p.1 p.2.1 }
noncomputable def impl_sideAt.c (k : Nat) : List (Nat × CE) := [(131, .fn (impl_sign.e k))]
noncomputable def impl_sideAt.bd : Code := match Try.f115.body with | some c => c | none => .skip
noncomputable def impl_sideAt.g (k : Nat) : List (Nat × LE) := []
theorem impl_sideAt.link (k : Nat) (a0 : S4) (a1 : S4) : evFun (mkCx Try.prog (impl_sideAt.c k) (impl_sideAt.g k) : Cx Int) Try.f115 ((impl_sideAt.e k).args.enc (a0, a1, ())) (impl_sideAt.e k).ret.dec = impl_sideAt.f k a0 a1 := by kernel_rfl
theorem impl_sideAt.ok1 (k : Nat) (hC : AllFun Try.prog (impl_sideAt.c k)) : Fun Try.prog 115 (impl_sideAt.e k).G := fun_ok mixed (body := impl_sideAt.bd) Try.func115 (by kernel_rfl) (by kernel_rfl) (by kernel_rfl) hC (loops_all 0 (by kernel_rfl) fun i hi => absurd hi (Nat.not_lt_zero i)) (impl_sideAt.e k) (fun a => Nat.le_of_ble_eq_true (by kernel_rfl)) fun a b h => (impl_sideAt.link k a.1 a.2.1).trans h
theorem impl_sideAt.ok (k : Nat) : Fun Try.prog 115 (impl_sideAt.e k).G := impl_sideAt.ok1 k ⟨impl_sign.ok k, trivial⟩

noncomputable def impl_Solid_around.fs (k : Nat) (self87 : Tree → S4 → Option (Int × Int × Unit)) (a0 : Tree) (a1 : S4) : Option (Int × Int × Unit) :=
  (impl_Solid_isLeaf.f k  (T1 a0)).bind fun t1 => if t1 = true then (if a0.inn = true then (some (1, 0, ())) else (some (0, 1, ()))) else ((impl_sideAt.f k  a0.p a1).bind fun t2 => if (decide (t2 ≥ 0)) = true then (if 0 ≤ 0 then (if 0 < (a0.kids.length : Int) then ((self87  (T1 (rd a0.kids 0)) a1).bind fun t3 => if (decide (t2 ≤ 0)) = true then (if 0 ≤ 1 then (if 1 < (a0.kids.length : Int) then ((self87  (T1 (rd a0.kids 1)) a1).bind fun t4 => some ((W (t3.1 + t4.1)), (W (t3.2.1 + t4.2.1)), ())) else none) else none) else (some (t3.1, t3.2.1, ()))) else none) else none) else (if (decide (t2 ≤ 0)) = true then (if 0 ≤ 1 then (if 1 < (a0.kids.length : Int) then ((self87  (T1 (rd a0.kids 1)) a1).bind fun t5 => some ((W (0 + t5.1)), (W (0 + t5.2.1)), ())) else none) else none) else (some (0, 0, ()))))
noncomputable def impl_Solid_around.f : Nat → Tree → S4 → Option (Int × Int × Unit)
  | 0, _, _ => none
  | k + 1, a0, a1 => impl_Solid_around.fs k (impl_Solid_around.f k) a0 a1
theorem impl_Solid_around.fS (k : Nat) (a0 : Tree) (a1 : S4) : impl_Solid_around.f (k + 1) a0 a1 = impl_Solid_around.fs k (impl_Solid_around.f k) a0 a1 := by first | rfl | rw [impl_Solid_around.f]
noncomputable def impl_Solid_around.e (k : Nat) : FE := { α := Tree × S4 × Unit, β := (Int × Int × Unit), args := (lCons aTreeP (lCons aS4 lNil)), ret := (rMany (lCons (aI .i64) (lCons (aI .i64) lNil))), f := fun p => impl_Solid_around.f k p.1 p.2.1 }
noncomputable def impl_Solid_around.c (k : Nat) : List (Nat × CE) := [(106, .fn (impl_Solid_isLeaf.e k)), (115, .fn (impl_sideAt.e k)), (87, .fn (impl_Solid_around.e k))]
noncomputable def impl_Solid_around.bd : Code := match Try.f87.body with | some c => c | none => .skip
noncomputable def impl_Solid_around.g (k : Nat) : List (Nat × LE) := []
theorem impl_Solid_around.link (k : Nat) (a0 : Tree) (a1 : S4) : evFun (mkCx Try.prog (impl_Solid_around.c k) (impl_Solid_around.g k) : Cx (Int × Int × Unit)) Try.f87 ((impl_Solid_around.e (k + 1)).args.enc (a0, a1, ())) (impl_Solid_around.e (k + 1)).ret.dec = impl_Solid_around.fs k (impl_Solid_around.f k) a0 a1 := by kernel_rfl
theorem impl_Solid_around.ok1 (k : Nat) (hC : AllFun Try.prog (impl_Solid_around.c k)) : Fun Try.prog 87 (impl_Solid_around.e (k + 1)).G := fun_ok mixed (body := impl_Solid_around.bd) Try.func87 (by kernel_rfl) (by kernel_rfl) (by kernel_rfl) hC (loops_all 0 (by kernel_rfl) fun i hi => absurd hi (Nat.not_lt_zero i)) (impl_Solid_around.e (k + 1)) (fun a => Nat.le_of_ble_eq_true (by kernel_rfl)) fun a b h => (impl_Solid_around.link k a.1 a.2.1).trans ((impl_Solid_around.fS k a.1 a.2.1).symm.trans h)
theorem impl_Solid_around.ok : ∀ k, Fun Try.prog 87 (impl_Solid_around.e k).G
  | 0 => fun_zero (by kernel_rfl) fun _ => rfl
  | k + 1 => impl_Solid_around.ok1 k ⟨impl_Solid_isLeaf.ok k, impl_sideAt.ok k, impl_Solid_around.ok k, trivial⟩

noncomputable def impl_Around.f (k : Nat) (a0 : Tree) (a1 : S4) : Option (Int × Int × Unit) :=
  (impl_SpotOk.f k  a1).bind fun t1 => if (!t1) = true then (some (0, 0, ())) else ((impl_SolidOk.f k  (T1 a0)).bind fun t2 => if (!t2) = true then (some (0, 0, ())) else ((impl_Solid_around.f k  (T1 a0) a1).bind fun t3 => some (t3.1, t3.2.1, ())))
noncomputable def impl_Around.e (k : Nat) : FE := { α := Tree × S4 × Unit, β := (Int × Int × Unit), args := (lCons aTree (lCons aS4 lNil)), ret := (rMany (lCons (aI .i64) (lCons (aI .i64) lNil))), f := fun p => impl_Around.f k p.1 p.2.1 }
noncomputable def impl_Around.c (k : Nat) : List (Nat × CE) := [(86, .fn (impl_SpotOk.e k)), (26, .fn (impl_SolidOk.e k)), (87, .fn (impl_Solid_around.e k))]
noncomputable def impl_Around.bd : Code := match Try.f42.body with | some c => c | none => .skip
noncomputable def impl_Around.g (k : Nat) : List (Nat × LE) := []
theorem impl_Around.link (k : Nat) (a0 : Tree) (a1 : S4) : evFun (mkCx Try.prog (impl_Around.c k) (impl_Around.g k) : Cx (Int × Int × Unit)) Try.f42 ((impl_Around.e k).args.enc (a0, a1, ())) (impl_Around.e k).ret.dec = impl_Around.f k a0 a1 := by kernel_rfl
theorem impl_Around.ok1 (k : Nat) (hC : AllFun Try.prog (impl_Around.c k)) : Fun Try.prog 42 (impl_Around.e k).G := fun_ok mixed (body := impl_Around.bd) Try.func42 (by kernel_rfl) (by kernel_rfl) (by kernel_rfl) hC (loops_all 0 (by kernel_rfl) fun i hi => absurd hi (Nat.not_lt_zero i)) (impl_Around.e k) (fun a => Nat.le_of_ble_eq_true (by kernel_rfl)) fun a b h => (impl_Around.link k a.1 a.2.1).trans h
theorem impl_Around.ok (k : Nat) : Fun Try.prog 42 (impl_Around.e k).G := impl_Around.ok1 k ⟨impl_SpotOk.ok k, impl_SolidOk.ok k, impl_Solid_around.ok k, trivial⟩

noncomputable def laws_FnExactAround.f (k : Nat) (a0 : Tree) (a1 : S4) : Option Bool :=
  (laws_szSolid.f k  (T1 a0) 1048576).bind fun t1 => if (decide (t1 < 0)) = true then (some true) else ((laws_toSolid.f k  (T1 a0)).bind fun t2 => (laws_toSpot.f k  a1).bind fun t3 => (spec_Around.f k  (T1 t2) t3).bind fun t4 => (laws_toSolid.f k  (T1 a0)).bind fun t5 => (laws_toSpot.f k  a1).bind fun t6 => (impl_Around.f k  (T1 t5) t6).bind fun t7 => if (t7.1 != t4.1) = true then (some false) else (if (t7.2.1 != t4.2.1) = true then (some false) else ((laws_toSolid.f k  (T1 a0)).bind fun t8 => (laws_eqSolid.f k  (T1 t5) (T1 t8)).bind fun t9 => if (!t9) = true then (some false) else (some true))))
noncomputable def laws_FnExactAround.e (k : Nat) : FE := { α := Tree × S4 × Unit, β := Bool, args := (lCons aTree (lCons aS4 lNil)), ret := (rOne aB), f := fun p => laws_FnExactAround.f k p.1 p.2.1 }
noncomputable def laws_FnExactAround.c (k : Nat) : List (Nat × CE) := [(21, .fn (laws_szSolid.e k)), (23, .fn (laws_toSolid.e k)), (41, .fn (laws_toSpot.e k)), (40, .fn (spec_Around.e k)), (42, .fn (impl_Around.e k)), (18, .fn (laws_eqSolid.e k))]
noncomputable def laws_FnExactAround.bd : Code := match Try.f9.body with | some c => c | none => .skip
noncomputable def laws_FnExactAround.g (k : Nat) : List (Nat × LE) := []
theorem laws_FnExactAround.link (k : Nat) (a0 : Tree) (a1 : S4) : evFun (mkCx Try.prog (laws_FnExactAround.c k) (laws_FnExactAround.g k) : Cx Bool) Try.f9 ((laws_FnExactAround.e k).args.enc (a0, a1, ())) (laws_FnExactAround.e k).ret.dec = laws_FnExactAround.f k a0 a1 := by kernel_rfl
theorem laws_FnExactAround.ok1 (k : Nat) (hC : AllFun Try.prog (laws_FnExactAround.c k)) : Fun Try.prog 9 (laws_FnExactAround.e k).G := fun_ok mixed (body := laws_FnExactAround.bd) Try.func9 (by kernel_rfl) (by kernel_rfl) (by kernel_rfl) hC (loops_all 0 (by kernel_rfl) fun i hi => absurd hi (Nat.not_lt_zero i)) (laws_FnExactAround.e k) (fun a => Nat.le_of_ble_eq_true (by kernel_rfl)) fun a b h => (laws_FnExactAround.link k a.1 a.2.1).trans h
theorem laws_FnExactAround.ok (k : Nat) : Fun Try.prog 9 (laws_FnExactAround.e k).G := laws_FnExactAround.ok1 k ⟨laws_szSolid.ok k, laws_toSolid.ok k, laws_toSpot.ok k, spec_Around.ok k, impl_Around.ok k, laws_eqSolid.ok k, trivial⟩

noncomputable def spec_l10Where.f (k : Nat) (a0 : Int) (a1 : Int) : Option Int :=
  if (a0 == 0) = true then (some (-1)) else (if (a1 == 0) = true then (some 1) else (some 0))
noncomputable def spec_l10Where.e (k : Nat) : FE := { α := Int × Int × Unit, β := Int, args := (lCons (aI .i64) (lCons (aI .i64) lNil)), ret := (rOne (aI .i64)), f := fun p => spec_l10Where.f k p.1 p.2.1 }
noncomputable def spec_l10Where.c (k : Nat) : List (Nat × CE) := []
noncomputable def spec_l10Where.bd : Code := match Try.f92.body with | some c => c | none => .skip
noncomputable def spec_l10Where.g (k : Nat) : List (Nat × LE) := []
theorem spec_l10Where.link (k : Nat) (a0 : Int) (a1 : Int) : evFun (mkCx Try.prog (spec_l10Where.c k) (spec_l10Where.g k) : Cx Int) Try.f92 ((spec_l10Where.e k).args.enc (a0, a1, ())) (spec_l10Where.e k).ret.dec = spec_l10Where.f k a0 a1 := by kernel_rfl
theorem spec_l10Where.ok1 (k : Nat) (hC : AllFun Try.prog (spec_l10Where.c k)) : Fun Try.prog 92 (spec_l10Where.e k).G := fun_ok mixed (body := spec_l10Where.bd) Try.func92 (by kernel_rfl) (by kernel_rfl) (by kernel_rfl) hC (loops_all 0 (by kernel_rfl) fun i hi => absurd hi (Nat.not_lt_zero i)) (spec_l10Where.e k) (fun a => Nat.le_of_ble_eq_true (by kernel_rfl)) fun a b h => (spec_l10Where.link k a.1 a.2.1).trans h
theorem spec_l10Where.ok (k : Nat) : Fun Try.prog 92 (spec_l10Where.e k).G := spec_l10Where.ok1 k trivial

noncomputable def spec_Where.f (k : Nat) (a0 : Tree) (a1 : S4) : Option Int :=
  (spec_Around.f k  (T1 a0) a1).bind fun t1 => (spec_l10Where.f k  t1.1 t1.2.1).bind fun t2 => some t2
noncomputable def spec_Where.e (k : Nat) : FE := { α := Tree × S4 × Unit, β := Int, args := (lCons aTree (lCons aS4 lNil)), ret := (rOne (aI .i64)), f := fun p => spec_Where.f k p.1 p.2.1 }
noncomputable def spec_Where.c (k : Nat) : List (Nat × CE) := [(40, .fn (spec_Around.e k)), (92, .fn (spec_l10Where.e k))]
noncomputable def spec_Where.bd : Code := match Try.f48.body with | some c => c | none => .skip
noncomputable def spec_Where.g (k : Nat) : List (Nat × LE) := []
theorem spec_Where.link (k : Nat) (a0 : Tree) (a1 : S4) : evFun (mkCx Try.prog (spec_Where.c k) (spec_Where.g k) : Cx Int) Try.f48 ((spec_Where.e k).args.enc (a0, a1, ())) (spec_Where.e k).ret.dec = spec_Where.f k a0 a1 := by kernel_rfl
theorem spec_Where.ok1 (k : Nat) (hC : AllFun Try.prog (spec_Where.c k)) : Fun Try.prog 48 (spec_Where.e k).G := fun_ok mixed (body := spec_Where.bd) Try.func48 (by kernel_rfl) (by kernel_rfl) (by kernel_rfl) hC (loops_all 0 (by kernel_rfl) fun i hi => absurd hi (Nat.not_lt_zero i)) (spec_Where.e k) (fun a => Nat.le_of_ble_eq_true (by kernel_rfl)) fun a b h => (spec_Where.link k a.1 a.2.1).trans h
theorem spec_Where.ok (k : Nat) : Fun Try.prog 48 (spec_Where.e k).G := spec_Where.ok1 k ⟨spec_Around.ok k, spec_l10Where.ok k, trivial⟩

noncomputable def impl_where.f (k : Nat) (a0 : Int) (a1 : Int) : Option Int :=
  if (a0 == 0) = true then (some (-1)) else (if (a1 == 0) = true then (some 1) else (some 0))
noncomputable def impl_where.e (k : Nat) : FE := { α := Int × Int × Unit, β := Int, args := (lCons (aI .i64) (lCons (aI .i64) lNil)), ret := (rOne (aI .i64)), f := fun p => impl_where.f k p.1 p.2.1 }
noncomputable def impl_where.c (k : Nat) : List (Nat × CE) := []
noncomputable def impl_where.bd : Code := match Try.f93.body with | some c => c | none => .skip
noncomputable def impl_where.g (k : Nat) : List (Nat × LE) := []
theorem impl_where.link (k : Nat) (a0 : Int) (a1 : Int) : evFun (mkCx Try.prog (impl_where.c k) (impl_where.g k) : Cx Int) Try.f93 ((impl_where.e k).args.enc (a0, a1, ())) (impl_where.e k).ret.dec = impl_where.f k a0 a1 := by kernel_rfl
theorem impl_where.ok1 (k : Nat) (hC : AllFun Try.prog (impl_where.c k)) : Fun Try.prog 93 (impl_where.e k).G := fun_ok mixed (body := impl_where.bd) Try.func93 (by kernel_rfl) (by kernel_rfl) (by kernel_rfl) hC (loops_all 0 (by kernel_rfl) fun i hi => absurd hi (Nat.not_lt_zero i)) (impl_where.e k) (fun a => Nat.le_of_ble_eq_true (by kernel_rfl)) fun a b h => (impl_where.link k a.1 a.2.1).trans h
theorem impl_where.ok (k : Nat) : Fun Try.prog 93 (impl_where.e k).G := impl_where.ok1 k trivial

noncomputable def impl_Where.f (k : Nat) (a0 : Tree) (a1 : S4) : Option Int :=
  (impl_Around.f k  (T1 a0) a1).bind fun t1 => (impl_where.f k  t1.1 t1.2.1).bind fun t2 => some t2
noncomputable def impl_Where.e (k : Nat) : FE := { α := Tree × S4 × Unit, β := Int, args := (lCons aTree (lCons aS4 lNil)), ret := (rOne (aI .i64)), f := fun p => impl_Where.f k p.1 p.2.1 }
noncomputable def impl_Where.c (k : Nat) : List (Nat × CE) := [(42, .fn (impl_Around.e k)), (93, .fn (impl_where.e k))]
noncomputable def impl_Where.bd : Code := match Try.f49.body with | some c => c | none => .skip
noncomputable def impl_Where.g (k : Nat) : List (Nat × LE) := []
theorem impl_Where.link (k : Nat) (a0 : Tree) (a1 : S4) : evFun (mkCx Try.prog (impl_Where.c k) (impl_Where.g k) : Cx Int) Try.f49 ((impl_Where.e k).args.enc (a0, a1, ())) (impl_Where.e k).ret.dec = impl_Where.f k a0 a1 := by kernel_rfl
theorem impl_Where.ok1 (k : Nat) (hC : AllFun Try.prog (impl_Where.c k)) : Fun Try.prog 49 (impl_Where.e k).G := fun_ok mixed (body := impl_Where.bd) Try.func49 (by kernel_rfl) (by kernel_rfl) (by kernel_rfl) hC (loops_all 0 (by kernel_rfl) fun i hi => absurd hi (Nat.not_lt_zero i)) (impl_Where.e k) (fun a => Nat.le_of_ble_eq_true (by kernel_rfl)) fun a b h => (impl_Where.link k a.1 a.2.1).trans h
theorem impl_Where.ok (k : Nat) : Fun Try.prog 49 (impl_Where.e k).G := impl_Where.ok1 k ⟨impl_Around.ok k, impl_where.ok k, trivial⟩

noncomputable def laws_FnExactWhere.f (k : Nat) (a0 : Tree) (a1 : S4) : Option Bool :=
  (laws_szSolid.f k  (T1 a0) 1048576).bind fun t1 => if (decide (t1 < 0)) = true then (some true) else ((laws_toSolid.f k  (T1 a0)).bind fun t2 => (laws_toSpot.f k  a1).bind fun t3 => (spec_Where.f k  (T1 t2) t3).bind fun t4 => (laws_toSolid.f k  (T1 a0)).bind fun t5 => (laws_toSpot.f k  a1).bind fun t6 => (impl_Where.f k  (T1 t5) t6).bind fun t7 => if (t7 != t4) = true then (some false) else ((laws_toSolid.f k  (T1 a0)).bind fun t8 => (laws_eqSolid.f k  (T1 t5) (T1 t8)).bind fun t9 => if (!t9) = true then (some false) else (some true)))
noncomputable def laws_FnExactWhere.e (k : Nat) : FE := { α := Tree × S4 × Unit, β := Bool, args := (lCons aTree (lCons aS4 lNil)), ret := (rOne aB), f := fun p => laws_FnExactWhere.f k p.1 p.2.1 }
noncomputable def laws_FnExactWhere.c (k : Nat) : List (Nat × CE) := [(21, .fn (laws_szSolid.e k)), (23, .fn (laws_toSolid.e k)), (41, .fn (laws_toSpot.e k)), (48, .fn (spec_Where.e k)), (49, .fn (impl_Where.e k)), (18, .fn (laws_eqSolid.e k))]
noncomputable def laws_FnExactWhere.bd : Code := match Try.f12.body with | some c => c | none => .skip
noncomputable def laws_FnExactWhere.g (k : Nat) : List (Nat × LE) := []
theorem laws_FnExactWhere.link (k : Nat) (a0 : Tree) (a1 : S4) : evFun (mkCx Try.prog (laws_FnExactWhere.c k) (laws_FnExactWhere.g k) : Cx Bool) Try.f12 ((laws_FnExactWhere.e k).args.enc (a0, a1, ())) (laws_FnExactWhere.e k).ret.dec = laws_FnExactWhere.f k a0 a1 := by kernel_rfl
theorem laws_FnExactWhere.ok1 (k : Nat) (hC : AllFun Try.prog (laws_FnExactWhere.c k)) : Fun Try.prog 12 (laws_FnExactWhere.e k).G := fun_ok mixed (body := laws_FnExactWhere.bd) Try.func12 (by kernel_rfl) (by kernel_rfl) (by kernel_rfl) hC (loops_all 0 (by kernel_rfl) fun i hi => absurd hi (Nat.not_lt_zero i)) (laws_FnExactWhere.e k) (fun a => Nat.le_of_ble_eq_true (by kernel_rfl)) fun a b h => (laws_FnExactWhere.link k a.1 a.2.1).trans h
theorem laws_FnExactWhere.ok (k : Nat) : Fun Try.prog 12 (laws_FnExactWhere.e k).G := laws_FnExactWhere.ok1 k ⟨laws_szSolid.ok k, laws_toSolid.ok k, laws_toSpot.ok k, spec_Where.ok k, impl_Where.ok k, laws_eqSolid.ok k, trivial⟩

end Go.Proofs.Ytfgaeenlnkioaaa.G
