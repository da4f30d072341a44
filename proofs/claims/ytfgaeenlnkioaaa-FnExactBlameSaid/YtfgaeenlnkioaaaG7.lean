/- Go functions told as plain Lean functions; that the code does what these tell. Printed by a program of the session (evp.py). -/
import Derived.Test.YtfgaeenlnkioaaaEv16
import Derived.Test.YtfgaeenlnkioaaaG6
namespace Go.Proofs.Ytfgaeenlnkioaaa.G
open Go Go.RowKit Go.Proofs Go.Proofs.Ytfgaeenlnkioaaa.Ev
set_option linter.unusedVariables false
set_option maxRecDepth 100000

noncomputable def impl_Where.f (k : Nat) (a0 : Tree) (a1 : S4) : Option Int :=
  (impl_Around.f k  (T1 a0) a1).bind fun t1 => (impl_where.f k  t1.1 t1.2.1).bind fun t2 => some t2
noncomputable def impl_Where.e (k : Nat) : FE := { α := Tree × S4 × Unit, β := Int, args := (lCons aTree (lCons aS4 lNil)), ret := (rOne (aI .i64)), f := fun p => impl_Where.f k p.1 p.2.1 }
noncomputable def impl_Where.c (k : Nat) : List (Nat × CE) := [(42, .fn (impl_Around.e k)), (93, .fn (impl_where.e k))]
noncomputable def impl_Where.bd : Code := match Try.f49.body with | some c => c | none => .skip
noncomputable def impl_Where.g (k : Nat) : List (Nat × LE) := []
theorem impl_Where.link (k : Nat) (a0 : Tree) (a1 : S4) : evFun (mkCx Try.prog (impl_Where.c k) (impl_Where.g k) : Cx Int) Try.f49 ((impl_Where.e k).args.enc (a0, a1, ())) (impl_Where.e k).ret.dec = impl_Where.f k a0 a1 := by kernel_rfl
theorem impl_Where.ok1 (k : Nat) (hC : AllFun Try.prog (impl_Where.c k)) : Fun Try.prog 49 (impl_Where.e k).G := fun_ok mixed (body := impl_Where.bd) Try.func49 (by kernel_rfl) (by kernel_rfl) (by kernel_rfl) hC (loops_all 0 (by kernel_rfl) fun i hi => absurd hi (Nat.not_lt_zero i)) (impl_Where.e k) (fun a => Nat.le_of_ble_eq_true (by kernel_rfl)) fun a b h => (impl_Where.link k a.1 a.2.1).trans h
theorem impl_Where.ok (k : Nat) : Fun Try.prog 49 (impl_Where.e k).G := impl_Where.ok1 k ⟨impl_Around.ok k, impl_where.ok k, trivial⟩

noncomputable def laws_FnExactWhere.f (k : Nat) (a0 : Tree) (a1 : S4) : Option Bool :=
  (laws_szSolid.f k  (T1 a0) 1048576).bind fun t1 => if (decide (t1 < 0)) = true then (some true) else ((laws_toSolid.f k  (T1 a0)).bind fun t2 => (laws_toSpot.f k  a1).bind fun t3 => (spec_Where.f k  (T1 t2) t3).bind fun t4 => (laws_toSolid.f k  (T1 a0)).bind fun t5 => (laws_toSpot.f k  a1).bind fun t6 => (impl_Where.f k  (T1 t5) t6).bind fun t7 => if (t7 != t4) = true then (some false) else ((laws_toSolid.f k  (T1 a0)).bind fun t8 => (laws_eqSolid.f k  (T1 t5) (T1 t8)).bind fun t9 => if (!t9) = true then (some false) else (some true)))
noncomputable def laws_FnExactWhere.e (k : Nat) : FE := { α := Tree × S4 × Unit, β := Bool, args := (lCons aTree (lCons aS4 lNil)), ret := (rOne aB), f := fun p => laws_FnExactWhere.f k p.1 p.2.1 }
noncomputable def laws_FnExactWhere.c (k : Nat) : List (Nat × CE) := [(21, .fn (laws_szSolid.e k)), (23, .fn (laws_toSolid.e k)), (41, .fn (laws_toSpot.e k)), (48, .fn (spec_Where.e k)), (49, .fn (impl_Where.e k)), (18, .fn (laws_eqSolid.e k))]
noncomputable def laws_FnExactWhere.bd : Code := match Try.f12.body with | some c => c | none => .skip
noncomputable def laws_FnExactWhere.g (k : Nat) : List (Nat × LE) := []
theorem laws_FnExactWhere.link (k : Nat) (a0 : Tree) (a1 : S4) : evFun (mkCx Try.prog (laws_FnExactWhere.c k) (laws_FnExactWhere.g k) : Cx Bool) Try.f12 ((laws_FnExactWhere.e k).args.enc (a0, a1, ())) (laws_FnExactWhere.e k).ret.dec = laws_FnExactWhere.f k a0 a1 := by kernel_rfl
theorem laws_FnExactWhere.ok1 (k : Nat) (hC : AllFun Try.prog (laws_FnExactWhere.c k)) : Fun Try.prog 12 (laws_FnExactWhere.e k).G := fun_ok mixed (body := laws_FnExactWhere.bd) Try.func12 (by kernel_rfl) (by kernel_rfl) (by kernel_rfl) hC (loops_all 0 (by kernel_rfl) fun i hi => absurd hi (Nat.not_lt_zero i)) (laws_FnExactWhere.e k) (fun a => Nat.le_of_ble_eq_true (by kernel_rfl)) fun a b h => (laws_FnExactWhere.link k a.1 a.2.1).trans h
theorem laws_FnExactWhere.ok (k : Nat) : Fun Try.prog 12 (laws_FnExactWhere.e k).G := laws_FnExactWhere.ok1 k ⟨laws_szSolid.ok k, laws_toSolid.ok k, laws_toSpot.ok k, spec_Where.ok k, impl_Where.ok k, laws_eqSolid.ok k, trivial⟩

noncomputable def spec_Wedge.f (k : Nat) (a0 : S3) (a1 : S3) (a2 : S4) : Option (Tree × Int × Unit) :=
  (spec_l9Brick.f k  a0 a1).bind fun t1 => if (t1.2.1 != 0) = true then (some ((Tree.mk false ⟨0, 0, 0, 0⟩ ([] : List Tree)), t1.2.1, ())) else ((spec_l8Path.f k  t1.1 a2).bind fun t2 => (spec_Convex.f k  t2).bind fun t3 => some ((T1 t3.1), t3.2.1, ()))
noncomputable def spec_Wedge.e (k : Nat) : FE := { α := S3 × S3 × S4 × Unit, β := (Tree × Int × Unit), args := (lCons aS3 (lCons aS3 (lCons aS4 lNil))), ret := (rMany (lCons aTree (lCons (aI .i64) lNil))), f := fun p => spec_Wedge.f k p.1 p.2.1 p.2.2.1 }
noncomputable def spec_Wedge.c (k : Nat) : List (Nat × CE) := [(90, .fn (spec_l9Brick.e k)), (94, .fn (spec_l8Path.e k)), (43, .fn (spec_Convex.e k))]
noncomputable def spec_Wedge.bd : Code := match Try.f50.body with | some c => c | none => .skip
noncomputable def spec_Wedge.g (k : Nat) : List (Nat × LE) := []
theorem spec_Wedge.link (k : Nat) (a0 : S3) (a1 : S3) (a2 : S4) : evFun (mkCx Try.prog (spec_Wedge.c k) (spec_Wedge.g k) : Cx (Tree × Int × Unit)) Try.f50 ((spec_Wedge.e k).args.enc (a0, a1, a2, ())) (spec_Wedge.e k).ret.dec = spec_Wedge.f k a0 a1 a2 := by kernel_rfl
theorem spec_Wedge.ok1 (k : Nat) (hC : AllFun Try.prog (spec_Wedge.c k)) : Fun Try.prog 50 (spec_Wedge.e k).G := fun_ok mixed (body := spec_Wedge.bd) Try.func50 (by kernel_rfl) (by kernel_rfl) (by kernel_rfl) hC (loops_all 0 (by kernel_rfl) fun i hi => absurd hi (Nat.not_lt_zero i)) (spec_Wedge.e k) (fun a => Nat.le_of_ble_eq_true (by kernel_rfl)) fun a b h => (spec_Wedge.link k a.1 a.2.1 a.2.2.1).trans h
theorem spec_Wedge.ok (k : Nat) : Fun Try.prog 50 (spec_Wedge.e k).G := spec_Wedge.ok1 k ⟨spec_l9Brick.ok k, spec_l8Path.ok k, spec_Convex.ok k, trivial⟩

noncomputable def impl_Wedge.f (k : Nat) (a0 : S3) (a1 : S3) (a2 : S4) : Option (Tree × Int × Unit) :=
  (impl_brickPlanes.f k  a0 a1).bind fun t1 => if (t1.2.1 != 0) = true then (some ((Tree.mk false ⟨0, 0, 0, 0⟩ ([] : List Tree)), t1.2.1, ())) else ((impl_with.f k  t1.1 a2).bind fun t2 => (impl_Convex.f k  t2).bind fun t3 => some ((T1 t3.1), t3.2.1, ()))
noncomputable def impl_Wedge.e (k : Nat) : FE := { α := S3 × S3 × S4 × Unit, β := (Tree × Int × Unit), args := (lCons aS3 (lCons aS3 (lCons aS4 lNil))), ret := (rMany (lCons aTree (lCons (aI .i64) lNil))), f := fun p => impl_Wedge.f k p.1 p.2.1 p.2.2.1 }
noncomputable def impl_Wedge.c (k : Nat) : List (Nat × CE) := [(91, .fn (impl_brickPlanes.e k)), (95, .fn (impl_with.e k)), (44, .fn (impl_Convex.e k))]
noncomputable def impl_Wedge.bd : Code := match Try.f51.body with | some c => c | none => .skip
noncomputable def impl_Wedge.g (k : Nat) : List (Nat × LE) := []
theorem impl_Wedge.link (k : Nat) (a0 : S3) (a1 : S3) (a2 : S4) : evFun (mkCx Try.prog (impl_Wedge.c k) (impl_Wedge.g k) : Cx (Tree × Int × Unit)) Try.f51 ((impl_Wedge.e k).args.enc (a0, a1, a2, ())) (impl_Wedge.e k).ret.dec = impl_Wedge.f k a0 a1 a2 := by kernel_rfl
theorem impl_Wedge.ok1 (k : Nat) (hC : AllFun Try.prog (impl_Wedge.c k)) : Fun Try.prog 51 (impl_Wedge.e k).G := fun_ok mixed (body := impl_Wedge.bd) Try.func51 (by kernel_rfl) (by kernel_rfl) (by kernel_rfl) hC (loops_all 0 (by kernel_rfl) fun i hi => absurd hi (Nat.not_lt_zero i)) (impl_Wedge.e k) (fun a => Nat.le_of_ble_eq_true (by kernel_rfl)) fun a b h => (impl_Wedge.link k a.1 a.2.1 a.2.2.1).trans h
theorem impl_Wedge.ok (k : Nat) : Fun Try.prog 51 (impl_Wedge.e k).G := impl_Wedge.ok1 k ⟨impl_brickPlanes.ok k, impl_with.ok k, impl_Convex.ok k, trivial⟩

noncomputable def spec_l8Cells.fs (k : Nat) (self96 : Tree → Bool → (List S4) → Option (List (List S4))) (a0 : Tree) (a1 : Bool) (a2 : List S4) : Option (List (List S4)) :=
  (spec_l8Leaf.f k  (T1 a0)).bind fun t1 => if t1 = true then (if (a0.inn == a1) = true then (if lt47 (([] : List S4).length + a2.length) = true then (some ([(([] : List S4) ++ a2)] : List (List S4))) else none) else (some ([] : List (List S4)))) else (if 0 ≤ 0 then (if 0 < (a0.kids.length : Int) then ((spec_l8Path.f k  a2 a0.p).bind fun t2 => (self96  (T1 (rd a0.kids 0)) a1 t2).bind fun t3 => if 0 ≤ 1 then (if 1 < (a0.kids.length : Int) then ((spec_l3Flip.f k  a0.p).bind fun t4 => (spec_l8Path.f k  a2 t4).bind fun t5 => (self96  (T1 (rd a0.kids 1)) a1 t5).bind fun t6 => if lt47 (t3.length + t6.length) = true then (some (t3 ++ t6)) else none) else none) else none) else none) else none)
noncomputable def spec_l8Cells.f : Nat → Tree → Bool → (List S4) → Option (List (List S4))
  | 0, _, _, _ => none
  | k + 1, a0, a1, a2 => spec_l8Cells.fs k (spec_l8Cells.f k) a0 a1 a2
theorem spec_l8Cells.fS (k : Nat) (a0 : Tree) (a1 : Bool) (a2 : List S4) : spec_l8Cells.f (k + 1) a0 a1 a2 = spec_l8Cells.fs k (spec_l8Cells.f k) a0 a1 a2 := by first | rfl | rw [spec_l8Cells.f]
noncomputable def spec_l8Cells.e (k : Nat) : FE := { α := Tree × Bool × (List S4) × Unit, β := List (List S4), args := (lCons aTree (lCons aB (lCons (aSl .s4) lNil))), ret := (rOwn 47 .rows), f := fun p => spec_l8Cells.f k p.1 p.2.1 p.2.2.1 }
noncomputable def spec_l8Cells.c (k : Nat) : List (Nat × CE) := [(103, .fn (spec_l8Leaf.e k)), (94, .fn (spec_l8Path.e k)), (96, .fn (spec_l8Cells.e k)), (105, .fn (spec_l3Flip.e k))]
noncomputable def spec_l8Cells.bd : Code := match Try.f96.body with | some c => c | none => .skip
noncomputable def spec_l8Cells.g (k : Nat) : List (Nat × LE) := []
theorem spec_l8Cells.link (k : Nat) (a0 : Tree) (a1 : Bool) (a2 : List S4) : evFun (mkCx Try.prog (spec_l8Cells.c k) (spec_l8Cells.g k) : Cx (List (List S4))) Try.f96 ((spec_l8Cells.e (k + 1)).args.enc (a0, a1, a2, ())) (spec_l8Cells.e (k + 1)).ret.dec = spec_l8Cells.fs k (spec_l8Cells.f k) a0 a1 a2 := by kernel_rfl
theorem spec_l8Cells.ok1 (k : Nat) (hC : AllFun Try.prog (spec_l8Cells.c k)) : Fun Try.prog 96 (spec_l8Cells.e (k + 1)).G := fun_ok mixed (body := spec_l8Cells.bd) Try.func96 (by kernel_rfl) (by kernel_rfl) (by kernel_rfl) hC (loops_all 0 (by kernel_rfl) fun i hi => absurd hi (Nat.not_lt_zero i)) (spec_l8Cells.e (k + 1)) (fun a => Nat.le_of_ble_eq_true (by kernel_rfl)) fun a b h => (spec_l8Cells.link k a.1 a.2.1 a.2.2.1).trans ((spec_l8Cells.fS k a.1 a.2.1 a.2.2.1).symm.trans h)
theorem spec_l8Cells.ok : ∀ k, Fun Try.prog 96 (spec_l8Cells.e k).G
  | 0 => fun_zero (by kernel_rfl) fun _ => rfl
  | k + 1 => spec_l8Cells.ok1 k ⟨spec_l8Leaf.ok k, spec_l8Path.ok k, spec_l8Cells.ok k, spec_l3Flip.ok k, trivial⟩

noncomputable def spec_Cells.f (k : Nat) (a0 : Tree) (a1 : Bool) : Option (List (List S4)) :=
  (spec_SolidOk.f k  (T1 a0)).bind fun t1 => if (!t1) = true then (some ([] : List (List S4))) else ((spec_l8Cells.f k  (T1 a0) a1 ([] : List S4)).bind fun t2 => some t2)
noncomputable def spec_Cells.e (k : Nat) : FE := { α := Tree × Bool × Unit, β := List (List S4), args := (lCons aTree (lCons aB lNil)), ret := (rOwn 47 .rows), f := fun p => spec_Cells.f k p.1 p.2.1 }
noncomputable def spec_Cells.c (k : Nat) : List (Nat × CE) := [(25, .fn (spec_SolidOk.e k)), (96, .fn (spec_l8Cells.e k))]
noncomputable def spec_Cells.bd : Code := match Try.f52.body with | some c => c | none => .skip
noncomputable def spec_Cells.g (k : Nat) : List (Nat × LE) := []
theorem spec_Cells.link (k : Nat) (a0 : Tree) (a1 : Bool) : evFun (mkCx Try.prog (spec_Cells.c k) (spec_Cells.g k) : Cx (List (List S4))) Try.f52 ((spec_Cells.e k).args.enc (a0, a1, ())) (spec_Cells.e k).ret.dec = spec_Cells.f k a0 a1 := by kernel_rfl
theorem spec_Cells.ok1 (k : Nat) (hC : AllFun Try.prog (spec_Cells.c k)) : Fun Try.prog 52 (spec_Cells.e k).G := fun_ok mixed (body := spec_Cells.bd) Try.func52 (by kernel_rfl) (by kernel_rfl) (by kernel_rfl) hC (loops_all 0 (by kernel_rfl) fun i hi => absurd hi (Nat.not_lt_zero i)) (spec_Cells.e k) (fun a => Nat.le_of_ble_eq_true (by kernel_rfl)) fun a b h => (spec_Cells.link k a.1 a.2.1).trans h
theorem spec_Cells.ok (k : Nat) : Fun Try.prog 52 (spec_Cells.e k).G := spec_Cells.ok1 k ⟨spec_SolidOk.ok k, spec_l8Cells.ok k, trivial⟩

noncomputable def laws_eqPlaneSS.H4 : Hd := ⟨[], [0, 1, 5], []⟩
@[reducible] def laws_eqPlaneSS.A4 : Type := (((List (List S4)) × (List (List S4)) × Int × Unit) × (Unit))
noncomputable def laws_eqPlaneSS.Z4 : SC laws_eqPlaneSS.A4 := sC laws_eqPlaneSS.H4 (eCons 0 (tP (aSl .rows)) (eCons 1 (tP (aSl .rows)) (eCons 5 (tP (aI .i64)) eNil))) bNil
@[reducible] def laws_eqPlaneSS.B4 : Type := ((Bool × Unit) × (Unit)) ⊕ ((Unit) × (Unit))
noncomputable def laws_eqPlaneSS.X4 : XC laws_eqPlaneSS.B4 := xOr (xRet (sC ⟨[], [4], []⟩ (eCons 4 (tP aB) eNil) bNil)) (xExit 0 (sC ⟨[], [], []⟩ eNil bNil))
noncomputable def laws_eqPlaneSS.s4 (k : Nat)  (J : (List (List S4)) → (List (List S4)) → Int → Option laws_eqPlaneSS.B4) (x0 : List (List S4)) (x1 : List (List S4)) (x5 : Int) : Option laws_eqPlaneSS.B4 :=
  if (decide (x5 < (x0.length : Int))) = true then (if 0 ≤ x5 then (if x5 < (x0.length : Int) then (if 0 ≤ x5 then (if x5 < (x1.length : Int) then ((laws_eqPlaneS.f k  (rd x0 x5) (rd x1 x5)).bind fun t1 => if (!t1) = true then (some (.inl ((false, ()), (())))) else (J x0 x1 (W (x5 + 1)))) else none) else none) else none) else none) else (some (.inr ((()), (()))))
noncomputable def laws_eqPlaneSS.l4 (k : Nat)  : Nat → (List (List S4)) → (List (List S4)) → Int → Option laws_eqPlaneSS.B4
  | 0, _, _, _ => none
  | n + 1, x0, x1, x5 => laws_eqPlaneSS.s4 k (laws_eqPlaneSS.l4 k n) x0 x1 x5
noncomputable def laws_eqPlaneSS.f (k : Nat) (a0 : List (List S4)) (a1 : List (List S4)) : Option Bool :=
  if ((a0.length : Int) != (a1.length : Int)) = true then (some false) else ((laws_eqPlaneSS.l4 k k a0 a1 0).bind fun | .inl r2 => (some r2.1.1) | .inr x3 => (some true))
noncomputable def laws_eqPlaneSS.e (k : Nat) : FE := { α := (List (List S4)) × (List (List S4)) × Unit, β := Bool, args := (lCons (aSl .rows) (lCons (aSl .rows) lNil)), ret := (rOne aB), f := fun p => laws_eqPlaneSS.f k p.1 p.2.1 }
noncomputable def laws_eqPlaneSS.c (k : Nat) : List (Nat × CE) := [(36, .fn (laws_eqPlaneS.e k))]
noncomputable def laws_eqPlaneSS.bd : Code := match Try.f54.body with | some c => c | none => .skip
noncomputable def laws_eqPlaneSS.e4 (k : Nat) : LE := { H := laws_eqPlaneSS.H4, α := laws_eqPlaneSS.A4, β := laws_eqPlaneSS.B4, st := laws_eqPlaneSS.Z4, xt := laws_eqPlaneSS.X4, f := fun p => laws_eqPlaneSS.l4 k k p.1.1 p.1.2.1 p.1.2.2.1 }
noncomputable def laws_eqPlaneSS.g (k : Nat) : List (Nat × LE) := [(4, laws_eqPlaneSS.e4 k)]
theorem laws_eqPlaneSS.t4 (k : Nat) (I : S2 → Option laws_eqPlaneSS.B4) (x0 : List (List S4)) (x1 : List (List S4)) (x5 : Int) : stepOf (mkCx Try.prog (laws_eqPlaneSS.c k) (laws_eqPlaneSS.g k) : Cx laws_eqPlaneSS.B4) (loopAt laws_eqPlaneSS.bd 0) laws_eqPlaneSS.H4 laws_eqPlaneSS.X4.dec I (laws_eqPlaneSS.Z4.enc ((x0, x1, x5, ()), (()))) = laws_eqPlaneSS.s4 k (fun x0 x1 x5 => I (laws_eqPlaneSS.Z4.enc ((x0, x1, x5, ()), (())))) x0 x1 x5 := by kernel_rfl
theorem laws_eqPlaneSS.i4 (k : Nat) : ∀ (n : Nat) (x0 : List (List S4)) (x1 : List (List S4)) (x5 : Int), iter (evCode (mkCx Try.prog (laws_eqPlaneSS.c k) (laws_eqPlaneSS.g k) : Cx laws_eqPlaneSS.B4) (loopAt laws_eqPlaneSS.bd 0)) laws_eqPlaneSS.H4 laws_eqPlaneSS.X4.dec n (laws_eqPlaneSS.Z4.enc ((x0, x1, x5, ()), (()))) = laws_eqPlaneSS.l4 k n x0 x1 x5
  | 0, _, _, _ => rfl
  | n + 1, x0, x1, x5 => ((iter_step _ _ _ _ n _).trans (laws_eqPlaneSS.t4 k _ x0 x1 x5)).trans (congrArg (fun J => laws_eqPlaneSS.s4 k J x0 x1 x5) (funext fun x0 => funext fun x1 => funext fun x5 => laws_eqPlaneSS.i4 k n x0 x1 x5))
theorem laws_eqPlaneSS.to4 (k : Nat) (hC : AllFun Try.prog (laws_eqPlaneSS.c k)) : LoopTo Try.prog 27 (laws_eqPlaneSS.e4 k) (loopAt laws_eqPlaneSS.bd 0) := loop_to mixed hC (by kernel_rfl) (loops_all 0 (by kernel_rfl) fun i hi => absurd hi (Nat.not_lt_zero i)) fun a b h => ⟨k, (laws_eqPlaneSS.i4 k k a.1.1 a.1.2.1 a.1.2.2.1).trans h⟩
theorem laws_eqPlaneSS.link (k : Nat) (a0 : List (List S4)) (a1 : List (List S4)) : evFun (mkCx Try.prog (laws_eqPlaneSS.c k) (laws_eqPlaneSS.g k) : Cx Bool) Try.f54 ((laws_eqPlaneSS.e k).args.enc (a0, a1, ())) (laws_eqPlaneSS.e k).ret.dec = laws_eqPlaneSS.f k a0 a1 := by kernel_rfl
theorem laws_eqPlaneSS.ok1 (k : Nat) (hC : AllFun Try.prog (laws_eqPlaneSS.c k)) : Fun Try.prog 54 (laws_eqPlaneSS.e k).G := fun_ok mixed (body := laws_eqPlaneSS.bd) Try.func54 (by kernel_rfl) (by kernel_rfl) (by kernel_rfl) hC (loops_all 1 (by kernel_rfl) fun i hi => by obtain rfl : i = 0 := Nat.lt_one_iff.1 hi; exact ⟨laws_eqPlaneSS.e4 k, by kernel_rfl, laws_eqPlaneSS.to4 k hC⟩) (laws_eqPlaneSS.e k) (fun a => Nat.le_of_ble_eq_true (by kernel_rfl)) fun a b h => (laws_eqPlaneSS.link k a.1 a.2.1).trans h
theorem laws_eqPlaneSS.ok (k : Nat) : Fun Try.prog 54 (laws_eqPlaneSS.e k).G := laws_eqPlaneSS.ok1 k ⟨laws_eqPlaneS.ok k, trivial⟩

noncomputable def laws_heldPlaneS.H2 : Hd := ⟨[], [0, 1, 5], []⟩
@[reducible] def laws_heldPlaneS.A2 : Type := (((List S4) × Int × Int × Unit) × (Unit))
noncomputable def laws_heldPlaneS.Z2 : SC laws_heldPlaneS.A2 := sC laws_heldPlaneS.H2 (eCons 0 (tP (aSl .s4)) (eCons 1 (tP (aI .i64)) (eCons 5 (tP (aI .i64)) eNil))) bNil
@[reducible] def laws_heldPlaneS.B2 : Type := ((Int × Unit) × (Unit)) ⊕ ((Int × Unit) × (Unit))
noncomputable def laws_heldPlaneS.X2 : XC laws_heldPlaneS.B2 := xOr (xRet (sC ⟨[], [4], []⟩ (eCons 4 (tP (aI .i64)) eNil) bNil)) (xExit 0 (sC ⟨[], [1], []⟩ (eCons 1 (tP (aI .i64)) eNil) bNil))
noncomputable def laws_heldPlaneS.s2 (k : Nat)  (J : (List S4) → Int → Int → Option laws_heldPlaneS.B2) (x0 : List S4) (x1 : Int) (x5 : Int) : Option laws_heldPlaneS.B2 :=
  if (decide (x5 < (x0.length : Int))) = true then (if 0 ≤ x5 then (if x5 < (x0.length : Int) then (if ((rd x0 x5).a != x1) = true then (some (.inl (((-1), ()), (())))) else (if 0 ≤ x5 then (if x5 < (x0.length : Int) then (if ((rd x0 x5).b != (W (x1 + 1))) = true then (some (.inl (((-1), ()), (())))) else (if 0 ≤ x5 then (if x5 < (x0.length : Int) then (if ((rd x0 x5).c != (W ((W (x1 + 1)) + 1))) = true then (some (.inl (((-1), ()), (())))) else (if 0 ≤ x5 then (if x5 < (x0.length : Int) then (if ((rd x0 x5).d != (W ((W ((W (x1 + 1)) + 1)) + 1))) = true then (some (.inl (((-1), ()), (())))) else (J x0 (W ((W ((W ((W (x1 + 1)) + 1)) + 1)) + 1)) (W (x5 + 1)))) else none) else none)) else none) else none)) else none) else none)) else none) else none) else (some (.inr ((x1, ()), (()))))
noncomputable def laws_heldPlaneS.l2 (k : Nat)  : Nat → (List S4) → Int → Int → Option laws_heldPlaneS.B2
  | 0, _, _, _ => none
  | n + 1, x0, x1, x5 => laws_heldPlaneS.s2 k (laws_heldPlaneS.l2 k n) x0 x1 x5
noncomputable def laws_heldPlaneS.f (k : Nat) (a0 : List S4) (a1 : Int) : Option Int :=
  (laws_heldPlaneS.l2 k k a0 a1 0).bind fun | .inl r1 => (some r1.1.1) | .inr x2 => (some x2.1.1)
noncomputable def laws_heldPlaneS.e (k : Nat) : FE := { α := (List S4) × Int × Unit, β := Int, args := (lCons (aSl .s4) (lCons (aI .i64) lNil)), ret := (rOne (aI .i64)), f := fun p => laws_heldPlaneS.f k p.1 p.2.1 }
noncomputable def laws_heldPlaneS.c (k : Nat) : List (Nat × CE) := []
noncomputable def laws_heldPlaneS.bd : Code := match Try.f98.body with | some c => c | none => .skip
noncomputable def laws_heldPlaneS.e2 (k : Nat) : LE := { H := laws_heldPlaneS.H2, α := laws_heldPlaneS.A2, β := laws_heldPlaneS.B2, st := laws_heldPlaneS.Z2, xt := laws_heldPlaneS.X2, f := fun p => laws_heldPlaneS.l2 k k p.1.1 p.1.2.1 p.1.2.2.1 }
noncomputable def laws_heldPlaneS.g (k : Nat) : List (Nat × LE) := [(2, laws_heldPlaneS.e2 k)]
theorem laws_heldPlaneS.t2 (k : Nat) (I : S2 → Option laws_heldPlaneS.B2) (x0 : List S4) (x1 : Int) (x5 : Int) : stepOf (mkCx Try.prog (laws_heldPlaneS.c k) (laws_heldPlaneS.g k) : Cx laws_heldPlaneS.B2) (loopAt laws_heldPlaneS.bd 0) laws_heldPlaneS.H2 laws_heldPlaneS.X2.dec I (laws_heldPlaneS.Z2.enc ((x0, x1, x5, ()), (()))) = laws_heldPlaneS.s2 k (fun x0 x1 x5 => I (laws_heldPlaneS.Z2.enc ((x0, x1, x5, ()), (())))) x0 x1 x5 := by kernel_rfl
theorem laws_heldPlaneS.i2 (k : Nat) : ∀ (n : Nat) (x0 : List S4) (x1 : Int) (x5 : Int), iter (evCode (mkCx Try.prog (laws_heldPlaneS.c k) (laws_heldPlaneS.g k) : Cx laws_heldPlaneS.B2) (loopAt laws_heldPlaneS.bd 0)) laws_heldPlaneS.H2 laws_heldPlaneS.X2.dec n (laws_heldPlaneS.Z2.enc ((x0, x1, x5, ()), (()))) = laws_heldPlaneS.l2 k n x0 x1 x5
  | 0, _, _, _ => rfl
  | n + 1, x0, x1, x5 => ((iter_step _ _ _ _ n _).trans (laws_heldPlaneS.t2 k _ x0 x1 x5)).trans (congrArg (fun J => laws_heldPlaneS.s2 k J x0 x1 x5) (funext fun x0 => funext fun x1 => funext fun x5 => laws_heldPlaneS.i2 k n x0 x1 x5))
theorem laws_heldPlaneS.to2 (k : Nat) (hC : AllFun Try.prog (laws_heldPlaneS.c k)) : LoopTo Try.prog 49 (laws_heldPlaneS.e2 k) (loopAt laws_heldPlaneS.bd 0) := loop_to mixed hC (by kernel_rfl) (loops_all 0 (by kernel_rfl) fun i hi => absurd hi (Nat.not_lt_zero i)) fun a b h => ⟨k, (laws_heldPlaneS.i2 k k a.1.1 a.1.2.1 a.1.2.2.1).trans h⟩
theorem laws_heldPlaneS.link (k : Nat) (a0 : List S4) (a1 : Int) : evFun (mkCx Try.prog (laws_heldPlaneS.c k) (laws_heldPlaneS.g k) : Cx Int) Try.f98 ((laws_heldPlaneS.e k).args.enc (a0, a1, ())) (laws_heldPlaneS.e k).ret.dec = laws_heldPlaneS.f k a0 a1 := by kernel_rfl
theorem laws_heldPlaneS.ok1 (k : Nat) (hC : AllFun Try.prog (laws_heldPlaneS.c k)) : Fun Try.prog 98 (laws_heldPlaneS.e k).G := fun_ok mixed (body := laws_heldPlaneS.bd) Try.func98 (by kernel_rfl) (by kernel_rfl) (by kernel_rfl) hC (loops_all 1 (by kernel_rfl) fun i hi => by obtain rfl : i = 0 := Nat.lt_one_iff.1 hi; exact ⟨laws_heldPlaneS.e2 k, by kernel_rfl, laws_heldPlaneS.to2 k hC⟩) (laws_heldPlaneS.e k) (fun a => Nat.le_of_ble_eq_true (by kernel_rfl)) fun a b h => (laws_heldPlaneS.link k a.1 a.2.1).trans h
theorem laws_heldPlaneS.ok (k : Nat) : Fun Try.prog 98 (laws_heldPlaneS.e k).G := laws_heldPlaneS.ok1 k trivial

noncomputable def laws_heldPlaneSS.H2 : Hd := ⟨[], [0, 1, 5], []⟩
@[reducible] def laws_heldPlaneSS.A2 : Type := (((List (List S4)) × Int × Int × Unit) × (Unit))
noncomputable def laws_heldPlaneSS.Z2 : SC laws_heldPlaneSS.A2 := sC laws_heldPlaneSS.H2 (eCons 0 (tP (aSl .rows)) (eCons 1 (tP (aI .i64)) (eCons 5 (tP (aI .i64)) eNil))) bNil
@[reducible] def laws_heldPlaneSS.B2 : Type := ((Int × Unit) × (Unit)) ⊕ ((Int × Unit) × (Unit))
noncomputable def laws_heldPlaneSS.X2 : XC laws_heldPlaneSS.B2 := xOr (xRet (sC ⟨[], [4], []⟩ (eCons 4 (tP (aI .i64)) eNil) bNil)) (xExit 0 (sC ⟨[], [1], []⟩ (eCons 1 (tP (aI .i64)) eNil) bNil))
noncomputable def laws_heldPlaneSS.s2 (k : Nat)  (J : (List (List S4)) → Int → Int → Option laws_heldPlaneSS.B2) (x0 : List (List S4)) (x1 : Int) (x5 : Int) : Option laws_heldPlaneSS.B2 :=
  if (decide (x5 < (x0.length : Int))) = true then (if 0 ≤ x5 then (if x5 < (x0.length : Int) then ((laws_heldPlaneS.f k  (rd x0 x5) x1).bind fun t1 => if (decide (t1 < 0)) = true then (some (.inl (((-1), ()), (())))) else (J x0 t1 (W (x5 + 1)))) else none) else none) else (some (.inr ((x1, ()), (()))))
noncomputable def laws_heldPlaneSS.l2 (k : Nat)  : Nat → (List (List S4)) → Int → Int → Option laws_heldPlaneSS.B2
  | 0, _, _, _ => none
  | n + 1, x0, x1, x5 => laws_heldPlaneSS.s2 k (laws_heldPlaneSS.l2 k n) x0 x1 x5
noncomputable def laws_heldPlaneSS.f (k : Nat) (a0 : List (List S4)) (a1 : Int) : Option Int :=
  (laws_heldPlaneSS.l2 k k a0 a1 0).bind fun | .inl r2 => (some r2.1.1) | .inr x3 => (some x3.1.1)
noncomputable def laws_heldPlaneSS.e (k : Nat) : FE := { α := (List (List S4)) × Int × Unit, β := Int, args := (lCons (aSl .rows) (lCons (aI .i64) lNil)), ret := (rOne (aI .i64)), f := fun p => laws_heldPlaneSS.f k p.1 p.2.1 }
noncomputable def laws_heldPlaneSS.c (k : Nat) : List (Nat × CE) := [(98, .fn (laws_heldPlaneS.e k))]
noncomputable def laws_heldPlaneSS.bd : Code := match Try.f56.body with | some c => c | none => .skip
noncomputable def laws_heldPlaneSS.e2 (k : Nat) : LE := { H := laws_heldPlaneSS.H2, α := laws_heldPlaneSS.A2, β := laws_heldPlaneSS.B2, st := laws_heldPlaneSS.Z2, xt := laws_heldPlaneSS.X2, f := fun p => laws_heldPlaneSS.l2 k k p.1.1 p.1.2.1 p.1.2.2.1 }
noncomputable def laws_heldPlaneSS.g (k : Nat) : List (Nat × LE) := [(2, laws_heldPlaneSS.e2 k)]
theorem laws_heldPlaneSS.t2 (k : Nat) (I : S2 → Option laws_heldPlaneSS.B2) (x0 : List (List S4)) (x1 : Int) (x5 : Int) : stepOf (mkCx Try.prog (laws_heldPlaneSS.c k) (laws_heldPlaneSS.g k) : Cx laws_heldPlaneSS.B2) (loopAt laws_heldPlaneSS.bd 0) laws_heldPlaneSS.H2 laws_heldPlaneSS.X2.dec I (laws_heldPlaneSS.Z2.enc ((x0, x1, x5, ()), (()))) = laws_heldPlaneSS.s2 k (fun x0 x1 x5 => I (laws_heldPlaneSS.Z2.enc ((x0, x1, x5, ()), (())))) x0 x1 x5 := by kernel_rfl
theorem laws_heldPlaneSS.i2 (k : Nat) : ∀ (n : Nat) (x0 : List (List S4)) (x1 : Int) (x5 : Int), iter (evCode (mkCx Try.prog (laws_heldPlaneSS.c k) (laws_heldPlaneSS.g k) : Cx laws_heldPlaneSS.B2) (loopAt laws_heldPlaneSS.bd 0)) laws_heldPlaneSS.H2 laws_heldPlaneSS.X2.dec n (laws_heldPlaneSS.Z2.enc ((x0, x1, x5, ()), (()))) = laws_heldPlaneSS.l2 k n x0 x1 x5
  | 0, _, _, _ => rfl
  | n + 1, x0, x1, x5 => ((iter_step _ _ _ _ n _).trans (laws_heldPlaneSS.t2 k _ x0 x1 x5)).trans (congrArg (fun J => laws_heldPlaneSS.s2 k J x0 x1 x5) (funext fun x0 => funext fun x1 => funext fun x5 => laws_heldPlaneSS.i2 k n x0 x1 x5))
theorem laws_heldPlaneSS.to2 (k : Nat) (hC : AllFun Try.prog (laws_heldPlaneSS.c k)) : LoopTo Try.prog 21 (laws_heldPlaneSS.e2 k) (loopAt laws_heldPlaneSS.bd 0) := loop_to mixed hC (by kernel_rfl) (loops_all 0 (by kernel_rfl) fun i hi => absurd hi (Nat.not_lt_zero i)) fun a b h => ⟨k, (laws_heldPlaneSS.i2 k k a.1.1 a.1.2.1 a.1.2.2.1).trans h⟩
theorem laws_heldPlaneSS.link (k : Nat) (a0 : List (List S4)) (a1 : Int) : evFun (mkCx Try.prog (laws_heldPlaneSS.c k) (laws_heldPlaneSS.g k) : Cx Int) Try.f56 ((laws_heldPlaneSS.e k).args.enc (a0, a1, ())) (laws_heldPlaneSS.e k).ret.dec = laws_heldPlaneSS.f k a0 a1 := by kernel_rfl
theorem laws_heldPlaneSS.ok1 (k : Nat) (hC : AllFun Try.prog (laws_heldPlaneSS.c k)) : Fun Try.prog 56 (laws_heldPlaneSS.e k).G := fun_ok mixed (body := laws_heldPlaneSS.bd) Try.func56 (by kernel_rfl) (by kernel_rfl) (by kernel_rfl) hC (loops_all 1 (by kernel_rfl) fun i hi => by obtain rfl : i = 0 := Nat.lt_one_iff.1 hi; exact ⟨laws_heldPlaneSS.e2 k, by kernel_rfl, laws_heldPlaneSS.to2 k hC⟩) (laws_heldPlaneSS.e k) (fun a => Nat.le_of_ble_eq_true (by kernel_rfl)) fun a b h => (laws_heldPlaneSS.link k a.1 a.2.1).trans h
theorem laws_heldPlaneSS.ok (k : Nat) : Fun Try.prog 56 (laws_heldPlaneSS.e k).G := laws_heldPlaneSS.ok1 k ⟨laws_heldPlaneS.ok k, trivial⟩

end Go.Proofs.Ytfgaeenlnkioaaa.G
