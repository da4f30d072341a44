/- Go functions told as plain Lean functions; that the code does what these tell. Printed by a program of the session (evp.py). -/
import Derived.Test.YtlkcpldohlemcaaEv16
import Derived.Test.YtlkcpldohlemcaaG2
namespace Go.Proofs.Ytlkcpldohlemcaa.G
open Go Go.RowKit Go.Proofs Go.Proofs.Ytlkcpldohlemcaa.Ev
set_option linter.unusedVariables false
set_option maxRecDepth 100000

noncomputable def spec_l8Planes.H7 : Hd := ⟨[], [1, 2, 5, 6], [2, 5], [], []⟩
@[reducible] def spec_l8Planes.A7 : Type := (((List S4) × Unit × Unit × Int × Unit) × (Tree × S4 × Unit))
noncomputable def spec_l8Planes.Z7 : SC spec_l8Planes.A7 := sC spec_l8Planes.H7 (eCons 1 (tP (aSl .s4)) (eCons 2 (tRef 2 0) (eCons 5 (tRef 5 0) (eCons 6 (tP (aI .i64)) eNil)))) (bCons 2 (xVr cTree) (bCons 5 (xVr cS4) bNil))
@[reducible] def spec_l8Planes.B7 : Type := (((List S4) × Unit × Unit × Int × Unit) × (Tree × S4 × Unit))
noncomputable def spec_l8Planes.X7 : XC spec_l8Planes.B7 := xExit 0 (sC ⟨[], [1, 2, 5, 6], [2, 5], [], []⟩ (eCons 1 (tP (aSl .s4)) (eCons 2 (tRef 2 0) (eCons 5 (tRef 5 0) (eCons 6 (tP (aI .i64)) eNil)))) (bCons 2 (xVr cTree) (bCons 5 (xVr cS4) bNil)))
noncomputable def spec_l8Planes.s7 (k : Nat) (self110 : Tree → (List S4) → Option (List S4)) (J : (List S4) → Int → Tree → S4 → Option spec_l8Planes.B7) (x1 : List S4) (x6 : Int) (b2 : Tree) (b5 : S4) : Option spec_l8Planes.B7 :=
  if (decide (x6 > 0)) = true then (if 0 ≤ (W (x6 - 1)) then (if (W (x6 - 1)) < (x1.length : Int) then ((spec_CmpPlane.f k  (rd x1 (W (x6 - 1))) b5).bind fun t5 => if (decide (t5 > 0)) = true then (J x1 (W (x6 - 1)) (T1 b2) b5) else (some ((x1, (), (), x6, ()), ((T1 b2), b5, ())))) else none) else none) else (some ((x1, (), (), x6, ()), ((T1 b2), b5, ())))
noncomputable def spec_l8Planes.l7 (k : Nat) (self110 : Tree → (List S4) → Option (List S4)) : Nat → (List S4) → Int → Tree → S4 → Option spec_l8Planes.B7
  | 0, _, _, _, _ => none
  | n + 1, x1, x6, b2, b5 => spec_l8Planes.s7 k self110 (spec_l8Planes.l7 k self110 n) x1 x6 b2 b5
noncomputable def spec_l8Planes.fs (k : Nat) (self110 : Tree → (List S4) → Option (List S4)) (a0 : Tree) (a1 : List S4) : Option (List S4) :=
  (spec_l8Leaf.f k  (T1 a0)).bind fun t1 => if t1 = true then (some a1) else ((spec_l3Flip.f k  a0.p).bind fun t2 => (spec_CmpPlane.f k  a0.p t2).bind fun t3 => if (decide (t3 < 0)) = true then ((spec_l3Flip.f k  a0.p).bind fun t4 => (spec_l8Planes.l7 k self110 k a1 (a1.length : Int) (T1 a0) t4).bind fun x6 => if (x6.1.2.2.2.1 == 0) = true then (if 0 ≤ x6.1.2.2.2.1 then (if x6.1.2.2.2.1 ≤ (x6.1.1.length : Int) then (if lt47 (([] : List S4).length + (x6.1.1.take x6.1.2.2.2.1.toNat).length) = true then (if lt47 ((([] : List S4) ++ (x6.1.1.take x6.1.2.2.2.1.toNat)).length + ([x6.2.2.1] : List S4).length) = true then (if 0 ≤ x6.1.2.2.2.1 then (if x6.1.2.2.2.1 ≤ (x6.1.1.length : Int) then (if lt47 (((([] : List S4) ++ (x6.1.1.take x6.1.2.2.2.1.toNat)) ++ ([x6.2.2.1] : List S4)).length + (x6.1.1.drop x6.1.2.2.2.1.toNat).length) = true then (if 0 ≤ 1 then (if 1 < (x6.2.1.kids.length : Int) then (if 0 ≤ 0 then (if 0 < (x6.2.1.kids.length : Int) then ((self110  (T1 (rd x6.2.1.kids 0)) (((([] : List S4) ++ (x6.1.1.take x6.1.2.2.2.1.toNat)) ++ ([x6.2.2.1] : List S4)) ++ (x6.1.1.drop x6.1.2.2.2.1.toNat))).bind fun t7 => (self110  (T1 (rd x6.2.1.kids 1)) t7).bind fun t8 => some t8) else none) else none) else none) else none) else none) else none) else none) else none) else none) else none) else none) else (if 0 ≤ (W (x6.1.2.2.2.1 - 1)) then (if (W (x6.1.2.2.2.1 - 1)) < (x6.1.1.length : Int) then (if (!(((rd x6.1.1 (W (x6.1.2.2.2.1 - 1))).a == x6.2.2.1.a) && (((rd x6.1.1 (W (x6.1.2.2.2.1 - 1))).b == x6.2.2.1.b) && (((rd x6.1.1 (W (x6.1.2.2.2.1 - 1))).c == x6.2.2.1.c) && ((rd x6.1.1 (W (x6.1.2.2.2.1 - 1))).d == x6.2.2.1.d))))) = true then (if 0 ≤ x6.1.2.2.2.1 then (if x6.1.2.2.2.1 ≤ (x6.1.1.length : Int) then (if lt47 (([] : List S4).length + (x6.1.1.take x6.1.2.2.2.1.toNat).length) = true then (if lt47 ((([] : List S4) ++ (x6.1.1.take x6.1.2.2.2.1.toNat)).length + ([x6.2.2.1] : List S4).length) = true then (if 0 ≤ x6.1.2.2.2.1 then (if x6.1.2.2.2.1 ≤ (x6.1.1.length : Int) then (if lt47 (((([] : List S4) ++ (x6.1.1.take x6.1.2.2.2.1.toNat)) ++ ([x6.2.2.1] : List S4)).length + (x6.1.1.drop x6.1.2.2.2.1.toNat).length) = true then (if 0 ≤ 1 then (if 1 < (x6.2.1.kids.length : Int) then (if 0 ≤ 0 then (if 0 < (x6.2.1.kids.length : Int) then ((self110  (T1 (rd x6.2.1.kids 0)) (((([] : List S4) ++ (x6.1.1.take x6.1.2.2.2.1.toNat)) ++ ([x6.2.2.1] : List S4)) ++ (x6.1.1.drop x6.1.2.2.2.1.toNat))).bind fun t9 => (self110  (T1 (rd x6.2.1.kids 1)) t9).bind fun t10 => some t10) else none) else none) else none) else none) else none) else none) else none) else none) else none) else none) else none) else (if 0 ≤ 1 then (if 1 < (x6.2.1.kids.length : Int) then (if 0 ≤ 0 then (if 0 < (x6.2.1.kids.length : Int) then ((self110  (T1 (rd x6.2.1.kids 0)) x6.1.1).bind fun t11 => (self110  (T1 (rd x6.2.1.kids 1)) t11).bind fun t12 => some t12) else none) else none) else none) else none)) else none) else none)) else ((spec_l8Planes.l7 k self110 k a1 (a1.length : Int) (T1 a0) a0.p).bind fun x13 => if (x13.1.2.2.2.1 == 0) = true then (if 0 ≤ x13.1.2.2.2.1 then (if x13.1.2.2.2.1 ≤ (x13.1.1.length : Int) then (if lt47 (([] : List S4).length + (x13.1.1.take x13.1.2.2.2.1.toNat).length) = true then (if lt47 ((([] : List S4) ++ (x13.1.1.take x13.1.2.2.2.1.toNat)).length + ([x13.2.2.1] : List S4).length) = true then (if 0 ≤ x13.1.2.2.2.1 then (if x13.1.2.2.2.1 ≤ (x13.1.1.length : Int) then (if lt47 (((([] : List S4) ++ (x13.1.1.take x13.1.2.2.2.1.toNat)) ++ ([x13.2.2.1] : List S4)).length + (x13.1.1.drop x13.1.2.2.2.1.toNat).length) = true then (if 0 ≤ 1 then (if 1 < (x13.2.1.kids.length : Int) then (if 0 ≤ 0 then (if 0 < (x13.2.1.kids.length : Int) then ((self110  (T1 (rd x13.2.1.kids 0)) (((([] : List S4) ++ (x13.1.1.take x13.1.2.2.2.1.toNat)) ++ ([x13.2.2.1] : List S4)) ++ (x13.1.1.drop x13.1.2.2.2.1.toNat))).bind fun t14 => (self110  (T1 (rd x13.2.1.kids 1)) t14).bind fun t15 => some t15) else none) else none) else none) else none) else none) else none) else none) else none) else none) else none) else none) else (if 0 ≤ (W (x13.1.2.2.2.1 - 1)) then (if (W (x13.1.2.2.2.1 - 1)) < (x13.1.1.length : Int) then (if (!(((rd x13.1.1 (W (x13.1.2.2.2.1 - 1))).a == x13.2.2.1.a) && (((rd x13.1.1 (W (x13.1.2.2.2.1 - 1))).b == x13.2.2.1.b) && (((rd x13.1.1 (W (x13.1.2.2.2.1 - 1))).c == x13.2.2.1.c) && ((rd x13.1.1 (W (x13.1.2.2.2.1 - 1))).d == x13.2.2.1.d))))) = true then (if 0 ≤ x13.1.2.2.2.1 then (if x13.1.2.2.2.1 ≤ (x13.1.1.length : Int) then (if lt47 (([] : List S4).length + (x13.1.1.take x13.1.2.2.2.1.toNat).length) = true then (if lt47 ((([] : List S4) ++ (x13.1.1.take x13.1.2.2.2.1.toNat)).length + ([x13.2.2.1] : List S4).length) = true then (if 0 ≤ x13.1.2.2.2.1 then (if x13.1.2.2.2.1 ≤ (x13.1.1.length : Int) then (if lt47 (((([] : List S4) ++ (x13.1.1.take x13.1.2.2.2.1.toNat)) ++ ([x13.2.2.1] : List S4)).length + (x13.1.1.drop x13.1.2.2.2.1.toNat).length) = true then (if 0 ≤ 1 then (if 1 < (x13.2.1.kids.length : Int) then (if 0 ≤ 0 then (if 0 < (x13.2.1.kids.length : Int) then ((self110  (T1 (rd x13.2.1.kids 0)) (((([] : List S4) ++ (x13.1.1.take x13.1.2.2.2.1.toNat)) ++ ([x13.2.2.1] : List S4)) ++ (x13.1.1.drop x13.1.2.2.2.1.toNat))).bind fun t16 => (self110  (T1 (rd x13.2.1.kids 1)) t16).bind fun t17 => some t17) else none) else none) else none) else none) else none) else none) else none) else none) else none) else none) else none) else (if 0 ≤ 1 then (if 1 < (x13.2.1.kids.length : Int) then (if 0 ≤ 0 then (if 0 < (x13.2.1.kids.length : Int) then ((self110  (T1 (rd x13.2.1.kids 0)) x13.1.1).bind fun t18 => (self110  (T1 (rd x13.2.1.kids 1)) t18).bind fun t19 => some t19) else none) else none) else none) else none)) else none) else none)))
noncomputable def spec_l8Planes.f : Nat → Tree → (List S4) → Option (List S4)
  | 0, _, _ => none
  | k + 1, a0, a1 => spec_l8Planes.fs k (spec_l8Planes.f k) a0 a1
theorem spec_l8Planes.fS (k : Nat) (a0 : Tree) (a1 : List S4) : spec_l8Planes.f (k + 1) a0 a1 = spec_l8Planes.fs k (spec_l8Planes.f k) a0 a1 := by first | rfl | rw [spec_l8Planes.f]
noncomputable def spec_l8Planes.e (k : Nat) : FE := { α := Tree × (List S4) × Unit, β := List S4, args := (lCons aTree (lCons (aSl .s4) lNil)), ret := (rSh .s4), f := fun p => spec_l8Planes.f k p.1 p.2.1 }
noncomputable def spec_l8Planes.c (k : Nat) : List (Nat × CE) := [(168, .fn (spec_l8Leaf.e k)), (164, .fn (spec_l3Flip.e k)), (172, .fn (spec_CmpPlane.e k)), (110, .fn (spec_l8Planes.e k))]
noncomputable def spec_l8Planes.bd : Code := match Try.f110.body with | some c => c | none => .skip
noncomputable def spec_l8Planes.e7 (k : Nat) : LE := { H := spec_l8Planes.H7, α := spec_l8Planes.A7, β := spec_l8Planes.B7, st := spec_l8Planes.Z7, xt := spec_l8Planes.X7, f := fun p => spec_l8Planes.l7 k (spec_l8Planes.f k) k p.1.1 p.1.2.2.2.1 p.2.1 p.2.2.1 }
noncomputable def spec_l8Planes.g (k : Nat) : List (Nat × LE) := [(7, spec_l8Planes.e7 k)]
theorem spec_l8Planes.t7 (k : Nat) (I : S2 → Option spec_l8Planes.B7) (x1 : List S4) (x6 : Int) (b2 : Tree) (b5 : S4) : stepOf (mkCx Try.prog (spec_l8Planes.c k) (spec_l8Planes.g k) : Cx spec_l8Planes.B7) (loopAt spec_l8Planes.bd 0) spec_l8Planes.H7 spec_l8Planes.X7.dec I (spec_l8Planes.Z7.enc ((x1, (), (), x6, ()), (b2, b5, ()))) = spec_l8Planes.s7 k (spec_l8Planes.f k) (fun x1 x6 b2 b5 => I (spec_l8Planes.Z7.enc ((x1, (), (), x6, ()), (b2, b5, ())))) x1 x6 b2 b5 := by kernel_rfl
theorem spec_l8Planes.i7 (k : Nat) : ∀ (n : Nat) (x1 : List S4) (x6 : Int) (b2 : Tree) (b5 : S4), iter (evCode (mkCx Try.prog (spec_l8Planes.c k) (spec_l8Planes.g k) : Cx spec_l8Planes.B7) (loopAt spec_l8Planes.bd 0)) spec_l8Planes.H7 spec_l8Planes.X7.dec n (spec_l8Planes.Z7.enc ((x1, (), (), x6, ()), (b2, b5, ()))) = spec_l8Planes.l7 k (spec_l8Planes.f k) n x1 x6 b2 b5
  | 0, _, _, _, _ => rfl
  | n + 1, x1, x6, b2, b5 => ((iter_step _ _ _ _ n _).trans (spec_l8Planes.t7 k _ x1 x6 b2 b5)).trans (congrArg (fun J => spec_l8Planes.s7 k (spec_l8Planes.f k) J x1 x6 b2 b5) (funext fun x1 => funext fun x6 => funext fun b2 => funext fun b5 => spec_l8Planes.i7 k n x1 x6 b2 b5))
theorem spec_l8Planes.to7 (k : Nat) (hC : AllFun Try.prog (spec_l8Planes.c k)) : LoopTo Try.prog 71 (spec_l8Planes.e7 k) (loopAt spec_l8Planes.bd 0) := loop_to mixed hC (by kernel_rfl) (loops_all 0 (by kernel_rfl) fun i hi => absurd hi (Nat.not_lt_zero i)) fun a b h => ⟨k, (spec_l8Planes.i7 k k a.1.1 a.1.2.2.2.1 a.2.1 a.2.2.1).trans h⟩
theorem spec_l8Planes.link (k : Nat) (a0 : Tree) (a1 : List S4) : evFun (mkCx Try.prog (spec_l8Planes.c k) (spec_l8Planes.g k) : Cx (List S4)) Try.f110 ((spec_l8Planes.e (k + 1)).args.enc (a0, a1, ())) (spec_l8Planes.e (k + 1)).ret.dec = spec_l8Planes.fs k (spec_l8Planes.f k) a0 a1 := by kernel_rfl
theorem spec_l8Planes.ok1 (k : Nat) (hC : AllFun Try.prog (spec_l8Planes.c k)) : Fun Try.prog 110 (spec_l8Planes.e (k + 1)).G := fun_ok mixed (body := spec_l8Planes.bd) Try.func110 (by kernel_rfl) (by kernel_rfl) (by kernel_rfl) hC (loops_all 1 (by kernel_rfl) fun i hi => by obtain rfl : i = 0 := Nat.lt_one_iff.1 hi; exact ⟨spec_l8Planes.e7 k, by kernel_rfl, spec_l8Planes.to7 k hC⟩) (spec_l8Planes.e (k + 1)) (fun a => Nat.le_of_ble_eq_true (by kernel_rfl)) fun a b h => (spec_l8Planes.link k a.1 a.2.1).trans ((spec_l8Planes.fS k a.1 a.2.1).symm.trans h)
theorem spec_l8Planes.ok : ∀ k, Fun Try.prog 110 (spec_l8Planes.e k).G
  | 0 => fun_zero (by kernel_rfl) fun _ => rfl
  | k + 1 => spec_l8Planes.ok1 k ⟨spec_l8Leaf.ok k, spec_l3Flip.ok k, spec_CmpPlane.ok k, spec_l8Planes.ok k, trivial⟩

noncomputable def spec_PlanesOf.f (k : Nat) (a0 : Tree) : Option (List S4) :=
  (spec_SolidOk.f k  (T1 a0)).bind fun t1 => if (!t1) = true then (some ([] : List S4)) else ((spec_l8Planes.f k  (T1 a0) ([] : List S4)).bind fun t2 => some t2)
noncomputable def spec_PlanesOf.e (k : Nat) : FE := { α := Tree × Unit, β := List S4, args := (lCons aTree lNil), ret := (rSh .s4), f := fun p => spec_PlanesOf.f k p.1 }
noncomputable def spec_PlanesOf.c (k : Nat) : List (Nat × CE) := [(105, .fn (spec_SolidOk.e k)), (110, .fn (spec_l8Planes.e k))]
noncomputable def spec_PlanesOf.bd : Code := match Try.f40.body with | some c => c | none => .skip
noncomputable def spec_PlanesOf.g (k : Nat) : List (Nat × LE) := []
theorem spec_PlanesOf.link (k : Nat) (a0 : Tree) : evFun (mkCx Try.prog (spec_PlanesOf.c k) (spec_PlanesOf.g k) : Cx (List S4)) Try.f40 ((spec_PlanesOf.e k).args.enc (a0, ())) (spec_PlanesOf.e k).ret.dec = spec_PlanesOf.f k a0 := by kernel_rfl
theorem spec_PlanesOf.ok1 (k : Nat) (hC : AllFun Try.prog (spec_PlanesOf.c k)) : Fun Try.prog 40 (spec_PlanesOf.e k).G := fun_ok mixed (body := spec_PlanesOf.bd) Try.func40 (by kernel_rfl) (by kernel_rfl) (by kernel_rfl) hC (loops_all 0 (by kernel_rfl) fun i hi => absurd hi (Nat.not_lt_zero i)) (spec_PlanesOf.e k) (fun a => Nat.le_of_ble_eq_true (by kernel_rfl)) fun a b h => (spec_PlanesOf.link k a.1).trans h
theorem spec_PlanesOf.ok (k : Nat) : Fun Try.prog 40 (spec_PlanesOf.e k).G := spec_PlanesOf.ok1 k ⟨spec_SolidOk.ok k, spec_l8Planes.ok k, trivial⟩

noncomputable def impl_inRange.f (k : Nat) (a0 : Int) (a1 : Int) (a2 : Int) : Option Bool :=
  if (decide (a0 ≥ a1)) = true then (some (decide (a0 ≤ a2))) else (some false)
noncomputable def impl_inRange.e (k : Nat) : FE := { α := Int × Int × Int × Unit, β := Bool, args := (lCons (aI .i64) (lCons (aI .i64) (lCons (aI .i64) lNil))), ret := (rOne aB), f := fun p => impl_inRange.f k p.1 p.2.1 p.2.2.1 }
noncomputable def impl_inRange.c (k : Nat) : List (Nat × CE) := []
noncomputable def impl_inRange.bd : Code := match Try.f126.body with | some c => c | none => .skip
noncomputable def impl_inRange.g (k : Nat) : List (Nat × LE) := []
theorem impl_inRange.link (k : Nat) (a0 : Int) (a1 : Int) (a2 : Int) : evFun (mkCx Try.prog (impl_inRange.c k) (impl_inRange.g k) : Cx Bool) Try.f126 ((impl_inRange.e k).args.enc (a0, a1, a2, ())) (impl_inRange.e k).ret.dec = impl_inRange.f k a0 a1 a2 := by kernel_rfl
theorem impl_inRange.ok1 (k : Nat) (hC : AllFun Try.prog (impl_inRange.c k)) : Fun Try.prog 126 (impl_inRange.e k).G := fun_ok mixed (body := impl_inRange.bd) Try.func126 (by kernel_rfl) (by kernel_rfl) (by kernel_rfl) hC (loops_all 0 (by kernel_rfl) fun i hi => absurd hi (Nat.not_lt_zero i)) (impl_inRange.e k) (fun a => Nat.le_of_ble_eq_true (by kernel_rfl)) fun a b h => (impl_inRange.link k a.1 a.2.1 a.2.2.1).trans h
theorem impl_inRange.ok (k : Nat) : Fun Try.prog 126 (impl_inRange.e k).G := impl_inRange.ok1 k trivial

noncomputable def impl_isCoef.f (k : Nat) (a0 : Int) : Option Bool :=
  (impl_inRange.f k  a0 (-500) 500).bind fun t1 => some t1
noncomputable def impl_isCoef.e (k : Nat) : FE := { α := Int × Unit, β := Bool, args := (lCons (aI .i64) lNil), ret := (rOne aB), f := fun p => impl_isCoef.f k p.1 }
noncomputable def impl_isCoef.c (k : Nat) : List (Nat × CE) := [(126, .fn (impl_inRange.e k))]
noncomputable def impl_isCoef.bd : Code := match Try.f123.body with | some c => c | none => .skip
noncomputable def impl_isCoef.g (k : Nat) : List (Nat × LE) := []
theorem impl_isCoef.link (k : Nat) (a0 : Int) : evFun (mkCx Try.prog (impl_isCoef.c k) (impl_isCoef.g k) : Cx Bool) Try.f123 ((impl_isCoef.e k).args.enc (a0, ())) (impl_isCoef.e k).ret.dec = impl_isCoef.f k a0 := by kernel_rfl
theorem impl_isCoef.ok1 (k : Nat) (hC : AllFun Try.prog (impl_isCoef.c k)) : Fun Try.prog 123 (impl_isCoef.e k).G := fun_ok mixed (body := impl_isCoef.bd) Try.func123 (by kernel_rfl) (by kernel_rfl) (by kernel_rfl) hC (loops_all 0 (by kernel_rfl) fun i hi => absurd hi (Nat.not_lt_zero i)) (impl_isCoef.e k) (fun a => Nat.le_of_ble_eq_true (by kernel_rfl)) fun a b h => (impl_isCoef.link k a.1).trans h
theorem impl_isCoef.ok (k : Nat) : Fun Try.prog 123 (impl_isCoef.e k).G := impl_isCoef.ok1 k ⟨impl_inRange.ok k, trivial⟩

noncomputable def impl_divisor.H6 : Hd := ⟨[], [3, 5, 6, 7, 8], [], [], []⟩
@[reducible] def impl_divisor.A6 : Type := ((Int × Int × (List Int) × Int × Int × Unit) × (Unit))
noncomputable def impl_divisor.Z6 : SC impl_divisor.A6 := sC impl_divisor.H6 (eCons 3 (tP (aI .i64)) (eCons 5 (tP (aI .i64)) (eCons 6 (tP (aSl (.i .i64))) (eCons 7 (tP (aI .i64)) (eCons 8 (tP (aI .i64)) eNil))))) bNil
@[reducible] def impl_divisor.B6 : Type := ((Int × (List Int) × Int × Int × Unit) × (Unit))
noncomputable def impl_divisor.X6 : XC impl_divisor.B6 := xExit 2 (sC ⟨[], [3, 6, 7, 8], [], [], []⟩ (eCons 3 (tP (aI .i64)) (eCons 6 (tP (aSl (.i .i64))) (eCons 7 (tP (aI .i64)) (eCons 8 (tP (aI .i64)) eNil)))) bNil)
noncomputable def impl_divisor.s6 (k : Nat)  (J : Int → Int → (List Int) → Int → Int → Option impl_divisor.B6) (x3 : Int) (x5 : Int) (x6 : List Int) (x7 : Int) (x8 : Int) : Option impl_divisor.B6 :=
  if (x5 != 0) = true then (if x5 = 0 then none else (J x5 (x3.tmod x5) x6 x7 x8)) else (some ((x3, x6, x7, x8, ()), (())))
noncomputable def impl_divisor.l6 (k : Nat)  : Nat → Int → Int → (List Int) → Int → Int → Option impl_divisor.B6
  | 0, _, _, _, _, _ => none
  | n + 1, x3, x5, x6, x7, x8 => impl_divisor.s6 k (impl_divisor.l6 k n) x3 x5 x6 x7 x8
noncomputable def impl_divisor.H3 : Hd := ⟨[], [3, 6, 7, 8], [], [], []⟩
@[reducible] def impl_divisor.A3 : Type := ((Int × (List Int) × Int × Int × Unit) × (Unit))
noncomputable def impl_divisor.Z3 : SC impl_divisor.A3 := sC impl_divisor.H3 (eCons 3 (tP (aI .i64)) (eCons 6 (tP (aSl (.i .i64))) (eCons 7 (tP (aI .i64)) (eCons 8 (tP (aI .i64)) eNil)))) bNil
@[reducible] def impl_divisor.B3 : Type := ((Int × Unit) × (Unit))
noncomputable def impl_divisor.X3 : XC impl_divisor.B3 := xExit 0 (sC ⟨[], [3], [], [], []⟩ (eCons 3 (tP (aI .i64)) eNil) bNil)
noncomputable def impl_divisor.s3 (k : Nat)  (J : Int → (List Int) → Int → Int → Option impl_divisor.B3) (x3 : Int) (x6 : List Int) (x7 : Int) (x8 : Int) : Option impl_divisor.B3 :=
  if (decide (x8 < x7)) = true then (if 0 ≤ x8 then (if x8 < (x6.length : Int) then ((impl_divisor.l6 k k x3 (if (W (0 - (rd x6 x8))) > (rd x6 x8) then (W (0 - (rd x6 x8))) else (rd x6 x8)) x6 x7 x8).bind fun x1 => J x1.1.1 x1.1.2.1 x1.1.2.2.1 (W (x1.1.2.2.2.1 + 1))) else none) else none) else (some ((x3, ()), (())))
noncomputable def impl_divisor.l3 (k : Nat)  : Nat → Int → (List Int) → Int → Int → Option impl_divisor.B3
  | 0, _, _, _, _ => none
  | n + 1, x3, x6, x7, x8 => impl_divisor.s3 k (impl_divisor.l3 k n) x3 x6 x7 x8
noncomputable def impl_divisor.f (k : Nat) (a0 : List Int) : Option Int :=
  (impl_divisor.l3 k k 0 a0 (a0.length : Int) 0).bind fun x2 => some x2.1.1
noncomputable def impl_divisor.e (k : Nat) : FE := { α := (List Int) × Unit, β := Int, args := (lCons (aSl (.i .i64)) lNil), ret := (rOne (aI .i64)), f := fun p => impl_divisor.f k p.1 }
noncomputable def impl_divisor.c (k : Nat) : List (Nat × CE) := []
noncomputable def impl_divisor.bd : Code := match Try.f143.body with | some c => c | none => .skip
noncomputable def impl_divisor.e6 (k : Nat) : LE := { H := impl_divisor.H6, α := impl_divisor.A6, β := impl_divisor.B6, st := impl_divisor.Z6, xt := impl_divisor.X6, f := fun p => impl_divisor.l6 k k p.1.1 p.1.2.1 p.1.2.2.1 p.1.2.2.2.1 p.1.2.2.2.2.1 }
noncomputable def impl_divisor.e3 (k : Nat) : LE := { H := impl_divisor.H3, α := impl_divisor.A3, β := impl_divisor.B3, st := impl_divisor.Z3, xt := impl_divisor.X3, f := fun p => impl_divisor.l3 k k p.1.1 p.1.2.1 p.1.2.2.1 p.1.2.2.2.1 }
noncomputable def impl_divisor.g (k : Nat) : List (Nat × LE) := [(6, impl_divisor.e6 k), (3, impl_divisor.e3 k)]
theorem impl_divisor.t6 (k : Nat) (I : S2 → Option impl_divisor.B6) (x3 : Int) (x5 : Int) (x6 : List Int) (x7 : Int) (x8 : Int) : stepOf (mkCx Try.prog (impl_divisor.c k) (impl_divisor.g k) : Cx impl_divisor.B6) (loopAt (loopAt impl_divisor.bd 0) 0) impl_divisor.H6 impl_divisor.X6.dec I (impl_divisor.Z6.enc ((x3, x5, x6, x7, x8, ()), (()))) = impl_divisor.s6 k (fun x3 x5 x6 x7 x8 => I (impl_divisor.Z6.enc ((x3, x5, x6, x7, x8, ()), (())))) x3 x5 x6 x7 x8 := by kernel_rfl
theorem impl_divisor.i6 (k : Nat) : ∀ (n : Nat) (x3 : Int) (x5 : Int) (x6 : List Int) (x7 : Int) (x8 : Int), iter (evCode (mkCx Try.prog (impl_divisor.c k) (impl_divisor.g k) : Cx impl_divisor.B6) (loopAt (loopAt impl_divisor.bd 0) 0)) impl_divisor.H6 impl_divisor.X6.dec n (impl_divisor.Z6.enc ((x3, x5, x6, x7, x8, ()), (()))) = impl_divisor.l6 k n x3 x5 x6 x7 x8
  | 0, _, _, _, _, _ => rfl
  | n + 1, x3, x5, x6, x7, x8 => ((iter_step _ _ _ _ n _).trans (impl_divisor.t6 k _ x3 x5 x6 x7 x8)).trans (congrArg (fun J => impl_divisor.s6 k J x3 x5 x6 x7 x8) (funext fun x3 => funext fun x5 => funext fun x6 => funext fun x7 => funext fun x8 => impl_divisor.i6 k n x3 x5 x6 x7 x8))
theorem impl_divisor.t3 (k : Nat) (I : S2 → Option impl_divisor.B3) (x3 : Int) (x6 : List Int) (x7 : Int) (x8 : Int) : stepOf (mkCx Try.prog (impl_divisor.c k) (impl_divisor.g k) : Cx impl_divisor.B3) (loopAt impl_divisor.bd 0) impl_divisor.H3 impl_divisor.X3.dec I (impl_divisor.Z3.enc ((x3, x6, x7, x8, ()), (()))) = impl_divisor.s3 k (fun x3 x6 x7 x8 => I (impl_divisor.Z3.enc ((x3, x6, x7, x8, ()), (())))) x3 x6 x7 x8 := by kernel_rfl
theorem impl_divisor.i3 (k : Nat) : ∀ (n : Nat) (x3 : Int) (x6 : List Int) (x7 : Int) (x8 : Int), iter (evCode (mkCx Try.prog (impl_divisor.c k) (impl_divisor.g k) : Cx impl_divisor.B3) (loopAt impl_divisor.bd 0)) impl_divisor.H3 impl_divisor.X3.dec n (impl_divisor.Z3.enc ((x3, x6, x7, x8, ()), (()))) = impl_divisor.l3 k n x3 x6 x7 x8
  | 0, _, _, _, _ => rfl
  | n + 1, x3, x6, x7, x8 => ((iter_step _ _ _ _ n _).trans (impl_divisor.t3 k _ x3 x6 x7 x8)).trans (congrArg (fun J => impl_divisor.s3 k J x3 x6 x7 x8) (funext fun x3 => funext fun x6 => funext fun x7 => funext fun x8 => impl_divisor.i3 k n x3 x6 x7 x8))
theorem impl_divisor.to6 (k : Nat) (hC : AllFun Try.prog (impl_divisor.c k)) : LoopTo Try.prog 24 (impl_divisor.e6 k) (loopAt (loopAt impl_divisor.bd 0) 0) := loop_to mixed hC (by kernel_rfl) (loops_all 0 (by kernel_rfl) fun i hi => absurd hi (Nat.not_lt_zero i)) fun a b h => ⟨k, (impl_divisor.i6 k k a.1.1 a.1.2.1 a.1.2.2.1 a.1.2.2.2.1 a.1.2.2.2.2.1).trans h⟩
theorem impl_divisor.to3 (k : Nat) (hC : AllFun Try.prog (impl_divisor.c k)) : LoopTo Try.prog 24 (impl_divisor.e3 k) (loopAt impl_divisor.bd 0) := loop_to mixed hC (by kernel_rfl) (loops_all 1 (by kernel_rfl) fun i hi => by obtain rfl : i = 0 := Nat.lt_one_iff.1 hi; exact ⟨impl_divisor.e6 k, by kernel_rfl, impl_divisor.to6 k hC⟩) fun a b h => ⟨k, (impl_divisor.i3 k k a.1.1 a.1.2.1 a.1.2.2.1 a.1.2.2.2.1).trans h⟩
theorem impl_divisor.link (k : Nat) (a0 : List Int) : evFun (mkCx Try.prog (impl_divisor.c k) (impl_divisor.g k) : Cx Int) Try.f143 ((impl_divisor.e k).args.enc (a0, ())) (impl_divisor.e k).ret.dec = impl_divisor.f k a0 := by kernel_rfl
theorem impl_divisor.ok1 (k : Nat) (hC : AllFun Try.prog (impl_divisor.c k)) : Fun Try.prog 143 (impl_divisor.e k).G := fun_ok mixed (body := impl_divisor.bd) Try.func143 (by kernel_rfl) (by kernel_rfl) (by kernel_rfl) hC (loops_all 1 (by kernel_rfl) fun i hi => by obtain rfl : i = 0 := Nat.lt_one_iff.1 hi; exact ⟨impl_divisor.e3 k, by kernel_rfl, impl_divisor.to3 k hC⟩) (impl_divisor.e k) (fun a => Nat.le_of_ble_eq_true (by kernel_rfl)) fun a b h => (impl_divisor.link k a.1).trans h
theorem impl_divisor.ok (k : Nat) : Fun Try.prog 143 (impl_divisor.e k).G := impl_divisor.ok1 k trivial

noncomputable def impl_PlaneOk.f (k : Nat) (a0 : S4) : Option Bool :=
  (impl_isCoef.f k  a0.a).bind fun t1 => if (!t1) = true then (some false) else ((impl_isCoef.f k  a0.b).bind fun t2 => if (!t2) = true then (some false) else ((impl_isCoef.f k  a0.c).bind fun t3 => if (!t3) = true then (some false) else ((impl_isCoef.f k  a0.d).bind fun t4 => if (!t4) = true then (some false) else (if (a0.a != 0) = true then ((impl_divisor.f k  ([a0.a, a0.b, a0.c, a0.d] : List Int)).bind fun t5 => some (t5 == 1)) else (if (a0.b != 0) = true then ((impl_divisor.f k  ([a0.a, a0.b, a0.c, a0.d] : List Int)).bind fun t6 => some (t6 == 1)) else (if (a0.c != 0) = true then ((impl_divisor.f k  ([a0.a, a0.b, a0.c, a0.d] : List Int)).bind fun t7 => some (t7 == 1)) else (some false)))))))
noncomputable def impl_PlaneOk.e (k : Nat) : FE := { α := S4 × Unit, β := Bool, args := (lCons aS4 lNil), ret := (rOne aB), f := fun p => impl_PlaneOk.f k p.1 }
noncomputable def impl_PlaneOk.c (k : Nat) : List (Nat × CE) := [(123, .fn (impl_isCoef.e k)), (143, .fn (impl_divisor.e k))]
noncomputable def impl_PlaneOk.bd : Code := match Try.f87.body with | some c => c | none => .skip
noncomputable def impl_PlaneOk.g (k : Nat) : List (Nat × LE) := []
theorem impl_PlaneOk.link (k : Nat) (a0 : S4) : evFun (mkCx Try.prog (impl_PlaneOk.c k) (impl_PlaneOk.g k) : Cx Bool) Try.f87 ((impl_PlaneOk.e k).args.enc (a0, ())) (impl_PlaneOk.e k).ret.dec = impl_PlaneOk.f k a0 := by kernel_rfl
theorem impl_PlaneOk.ok1 (k : Nat) (hC : AllFun Try.prog (impl_PlaneOk.c k)) : Fun Try.prog 87 (impl_PlaneOk.e k).G := fun_ok mixed (body := impl_PlaneOk.bd) Try.func87 (by kernel_rfl) (by kernel_rfl) (by kernel_rfl) hC (loops_all 0 (by kernel_rfl) fun i hi => absurd hi (Nat.not_lt_zero i)) (impl_PlaneOk.e k) (fun a => Nat.le_of_ble_eq_true (by kernel_rfl)) fun a b h => (impl_PlaneOk.link k a.1).trans h
theorem impl_PlaneOk.ok (k : Nat) : Fun Try.prog 87 (impl_PlaneOk.e k).G := impl_PlaneOk.ok1 k ⟨impl_isCoef.ok k, impl_divisor.ok k, trivial⟩

noncomputable def impl_with.f (k : Nat) (a0 : List S4) (a1 : S4) : Option (List S4) :=
  if lt47 (([] : List S4).length + a0.length) = true then (if lt47 ((([] : List S4) ++ a0).length + ([a1] : List S4).length) = true then (some ((([] : List S4) ++ a0) ++ ([a1] : List S4))) else none) else none
noncomputable def impl_with.e (k : Nat) : FE := { α := (List S4) × S4 × Unit, β := List S4, args := (lCons (aSl .s4) (lCons aS4 lNil)), ret := (rOwn 24 .s4), f := fun p => impl_with.f k p.1 p.2.1 }
noncomputable def impl_with.c (k : Nat) : List (Nat × CE) := []
noncomputable def impl_with.bd : Code := match Try.f103.body with | some c => c | none => .skip
noncomputable def impl_with.g (k : Nat) : List (Nat × LE) := []
theorem impl_with.link (k : Nat) (a0 : List S4) (a1 : S4) : evFun (mkCx Try.prog (impl_with.c k) (impl_with.g k) : Cx (List S4)) Try.f103 ((impl_with.e k).args.enc (a0, a1, ())) (impl_with.e k).ret.dec = impl_with.f k a0 a1 := by kernel_rfl
theorem impl_with.ok1 (k : Nat) (hC : AllFun Try.prog (impl_with.c k)) : Fun Try.prog 103 (impl_with.e k).G := fun_ok mixed (body := impl_with.bd) Try.func103 (by kernel_rfl) (by kernel_rfl) (by kernel_rfl) hC (loops_all 0 (by kernel_rfl) fun i hi => absurd hi (Nat.not_lt_zero i)) (impl_with.e k) (fun a => Nat.le_of_ble_eq_true (by kernel_rfl)) fun a b h => (impl_with.link k a.1 a.2.1).trans h
theorem impl_with.ok (k : Nat) : Fun Try.prog 103 (impl_with.e k).G := impl_with.ok1 k trivial

noncomputable def impl_flip.f (k : Nat) (a0 : S4) : Option S4 :=
  some (⟨(W (0 - a0.a)), (W (0 - a0.b)), (W (0 - a0.c)), (W (0 - a0.d))⟩ : S4)
noncomputable def impl_flip.e (k : Nat) : FE := { α := S4 × Unit, β := S4, args := (lCons aS4 lNil), ret := (rOne aS4), f := fun p => impl_flip.f k p.1 }
noncomputable def impl_flip.c (k : Nat) : List (Nat × CE) := []
noncomputable def impl_flip.bd : Code := match Try.f148.body with | some c => c | none => .skip
noncomputable def impl_flip.g (k : Nat) : List (Nat × LE) := []
theorem impl_flip.link (k : Nat) (a0 : S4) : evFun (mkCx Try.prog (impl_flip.c k) (impl_flip.g k) : Cx S4) Try.f148 ((impl_flip.e k).args.enc (a0, ())) (impl_flip.e k).ret.dec = impl_flip.f k a0 := by kernel_rfl
theorem impl_flip.ok1 (k : Nat) (hC : AllFun Try.prog (impl_flip.c k)) : Fun Try.prog 148 (impl_flip.e k).G := fun_ok mixed (body := impl_flip.bd) Try.func148 (by kernel_rfl) (by kernel_rfl) (by kernel_rfl) hC (loops_all 0 (by kernel_rfl) fun i hi => absurd hi (Nat.not_lt_zero i)) (impl_flip.e k) (fun a => Nat.le_of_ble_eq_true (by kernel_rfl)) fun a b h => (impl_flip.link k a.1).trans h
theorem impl_flip.ok (k : Nat) : Fun Try.prog 148 (impl_flip.e k).G := impl_flip.ok1 k trivial

noncomputable def impl_sign.f (k : Nat) (a0 : Int) : Option Int :=
  (cmp_Compare_int.f k  a0 0).bind fun t1 => some t1
noncomputable def impl_sign.e (k : Nat) : FE := { α := Int × Unit, β := Int, args := (lCons (aI .i64) lNil), ret := (rOne (aI .i64)), f := fun p => impl_sign.f k p.1 }
noncomputable def impl_sign.c (k : Nat) : List (Nat × CE) := [(191, .fn (cmp_Compare_int.e k))]
noncomputable def impl_sign.bd : Code := match Try.f127.body with | some c => c | none => .skip
noncomputable def impl_sign.g (k : Nat) : List (Nat × LE) := []
theorem impl_sign.link (k : Nat) (a0 : Int) : evFun (mkCx Try.prog (impl_sign.c k) (impl_sign.g k) : Cx Int) Try.f127 ((impl_sign.e k).args.enc (a0, ())) (impl_sign.e k).ret.dec = impl_sign.f k a0 := by kernel_rfl
theorem impl_sign.ok1 (k : Nat) (hC : AllFun Try.prog (impl_sign.c k)) : Fun Try.prog 127 (impl_sign.e k).G := fun_ok mixed (body := impl_sign.bd) Try.func127 (by kernel_rfl) (by kernel_rfl) (by kernel_rfl) hC (loops_all 0 (by kernel_rfl) fun i hi => absurd hi (Nat.not_lt_zero i)) (impl_sign.e k) (fun a => Nat.le_of_ble_eq_true (by kernel_rfl)) fun a b h => (impl_sign.link k a.1).trans h
theorem impl_sign.ok (k : Nat) : Fun Try.prog 127 (impl_sign.e k).G := impl_sign.ok1 k ⟨cmp_Compare_int.ok k, trivial⟩

noncomputable def impl_crossOf.f (k : Nat) (a0 : S3) (a1 : S3) : Option S3 :=
  some (⟨(W ((W (a0.y * a1.z)) - (W (a0.z * a1.y)))), (W ((W (a0.z * a1.x)) - (W (a0.x * a1.z)))), (W ((W (a0.x * a1.y)) - (W (a0.y * a1.x))))⟩ : S3)
noncomputable def impl_crossOf.e (k : Nat) : FE := { α := S3 × S3 × Unit, β := S3, args := (lCons aS3 (lCons aS3 lNil)), ret := (rOne aS3), f := fun p => impl_crossOf.f k p.1 p.2.1 }
noncomputable def impl_crossOf.c (k : Nat) : List (Nat × CE) := []
noncomputable def impl_crossOf.bd : Code := match Try.f133.body with | some c => c | none => .skip
noncomputable def impl_crossOf.g (k : Nat) : List (Nat × LE) := []
theorem impl_crossOf.link (k : Nat) (a0 : S3) (a1 : S3) : evFun (mkCx Try.prog (impl_crossOf.c k) (impl_crossOf.g k) : Cx S3) Try.f133 ((impl_crossOf.e k).args.enc (a0, a1, ())) (impl_crossOf.e k).ret.dec = impl_crossOf.f k a0 a1 := by kernel_rfl
theorem impl_crossOf.ok1 (k : Nat) (hC : AllFun Try.prog (impl_crossOf.c k)) : Fun Try.prog 133 (impl_crossOf.e k).G := fun_ok mixed (body := impl_crossOf.bd) Try.func133 (by kernel_rfl) (by kernel_rfl) (by kernel_rfl) hC (loops_all 0 (by kernel_rfl) fun i hi => absurd hi (Nat.not_lt_zero i)) (impl_crossOf.e k) (fun a => Nat.le_of_ble_eq_true (by kernel_rfl)) fun a b h => (impl_crossOf.link k a.1 a.2.1).trans h
theorem impl_crossOf.ok (k : Nat) : Fun Try.prog 133 (impl_crossOf.e k).G := impl_crossOf.ok1 k trivial

noncomputable def impl_normal.f (k : Nat) (a0 : S4) : Option S3 :=
  some (⟨a0.a, a0.b, a0.c⟩ : S3)
noncomputable def impl_normal.e (k : Nat) : FE := { α := S4 × Unit, β := S3, args := (lCons aS4 lNil), ret := (rOne aS3), f := fun p => impl_normal.f k p.1 }
noncomputable def impl_normal.c (k : Nat) : List (Nat × CE) := []
noncomputable def impl_normal.bd : Code := match Try.f134.body with | some c => c | none => .skip
noncomputable def impl_normal.g (k : Nat) : List (Nat × LE) := []
theorem impl_normal.link (k : Nat) (a0 : S4) : evFun (mkCx Try.prog (impl_normal.c k) (impl_normal.g k) : Cx S3) Try.f134 ((impl_normal.e k).args.enc (a0, ())) (impl_normal.e k).ret.dec = impl_normal.f k a0 := by kernel_rfl
theorem impl_normal.ok1 (k : Nat) (hC : AllFun Try.prog (impl_normal.c k)) : Fun Try.prog 134 (impl_normal.e k).G := fun_ok mixed (body := impl_normal.bd) Try.func134 (by kernel_rfl) (by kernel_rfl) (by kernel_rfl) hC (loops_all 0 (by kernel_rfl) fun i hi => absurd hi (Nat.not_lt_zero i)) (impl_normal.e k) (fun a => Nat.le_of_ble_eq_true (by kernel_rfl)) fun a b h => (impl_normal.link k a.1).trans h
theorem impl_normal.ok (k : Nat) : Fun Try.prog 134 (impl_normal.e k).G := impl_normal.ok1 k trivial

noncomputable def impl_dot.f (k : Nat) (a0 : S3) (a1 : S3) : Option Int :=
  some (W ((W ((W (a0.x * a1.x)) + (W (a0.y * a1.y)))) + (W (a0.z * a1.z))))
noncomputable def impl_dot.e (k : Nat) : FE := { α := S3 × S3 × Unit, β := Int, args := (lCons aS3 (lCons aS3 lNil)), ret := (rOne (aI .i64)), f := fun p => impl_dot.f k p.1 p.2.1 }
noncomputable def impl_dot.c (k : Nat) : List (Nat × CE) := []
noncomputable def impl_dot.bd : Code := match Try.f192.body with | some c => c | none => .skip
noncomputable def impl_dot.g (k : Nat) : List (Nat × LE) := []
theorem impl_dot.link (k : Nat) (a0 : S3) (a1 : S3) : evFun (mkCx Try.prog (impl_dot.c k) (impl_dot.g k) : Cx Int) Try.f192 ((impl_dot.e k).args.enc (a0, a1, ())) (impl_dot.e k).ret.dec = impl_dot.f k a0 a1 := by kernel_rfl
theorem impl_dot.ok1 (k : Nat) (hC : AllFun Try.prog (impl_dot.c k)) : Fun Try.prog 192 (impl_dot.e k).G := fun_ok mixed (body := impl_dot.bd) Try.func192 (by kernel_rfl) (by kernel_rfl) (by kernel_rfl) hC (loops_all 0 (by kernel_rfl) fun i hi => absurd hi (Nat.not_lt_zero i)) (impl_dot.e k) (fun a => Nat.le_of_ble_eq_true (by kernel_rfl)) fun a b h => (impl_dot.link k a.1 a.2.1).trans h
theorem impl_dot.ok (k : Nat) : Fun Try.prog 192 (impl_dot.e k).G := impl_dot.ok1 k trivial

noncomputable def impl_parallel.f (k : Nat) (a0 : S4) (a1 : S4) : Option Int :=
  (impl_normal.f k  a0).bind fun t1 => (impl_normal.f k  a1).bind fun t2 => (impl_crossOf.f k  t1 t2).bind fun t3 => if (!((t3.x == 0) && ((t3.y == 0) && (t3.z == 0)))) = true then (some 0) else ((impl_normal.f k  a0).bind fun t4 => (impl_normal.f k  a1).bind fun t5 => (impl_dot.f k  t4 t5).bind fun t6 => (impl_sign.f k  t6).bind fun t7 => some t7)
noncomputable def impl_parallel.e (k : Nat) : FE := { α := S4 × S4 × Unit, β := Int, args := (lCons aS4 (lCons aS4 lNil)), ret := (rOne (aI .i64)), f := fun p => impl_parallel.f k p.1 p.2.1 }
noncomputable def impl_parallel.c (k : Nat) : List (Nat × CE) := [(134, .fn (impl_normal.e k)), (133, .fn (impl_crossOf.e k)), (192, .fn (impl_dot.e k)), (127, .fn (impl_sign.e k))]
noncomputable def impl_parallel.bd : Code := match Try.f129.body with | some c => c | none => .skip
noncomputable def impl_parallel.g (k : Nat) : List (Nat × LE) := []
theorem impl_parallel.link (k : Nat) (a0 : S4) (a1 : S4) : evFun (mkCx Try.prog (impl_parallel.c k) (impl_parallel.g k) : Cx Int) Try.f129 ((impl_parallel.e k).args.enc (a0, a1, ())) (impl_parallel.e k).ret.dec = impl_parallel.f k a0 a1 := by kernel_rfl
theorem impl_parallel.ok1 (k : Nat) (hC : AllFun Try.prog (impl_parallel.c k)) : Fun Try.prog 129 (impl_parallel.e k).G := fun_ok mixed (body := impl_parallel.bd) Try.func129 (by kernel_rfl) (by kernel_rfl) (by kernel_rfl) hC (loops_all 0 (by kernel_rfl) fun i hi => absurd hi (Nat.not_lt_zero i)) (impl_parallel.e k) (fun a => Nat.le_of_ble_eq_true (by kernel_rfl)) fun a b h => (impl_parallel.link k a.1 a.2.1).trans h
theorem impl_parallel.ok (k : Nat) : Fun Try.prog 129 (impl_parallel.e k).G := impl_parallel.ok1 k ⟨impl_normal.ok k, impl_crossOf.ok k, impl_dot.ok k, impl_sign.ok k, trivial⟩

noncomputable def impl_clash2.H5 : Hd := ⟨[], [2, 3, 5, 6, 16], [2, 3, 5, 6], [], []⟩
@[reducible] def impl_clash2.A5 : Type := ((Unit × Unit × Unit × Unit × Int × Unit) × (S4 × S4 × S3 × S3 × Unit))
noncomputable def impl_clash2.Z5 : SC impl_clash2.A5 := sC impl_clash2.H5 (eCons 2 (tRef 2 0) (eCons 3 (tRef 3 0) (eCons 5 (tRef 5 0) (eCons 6 (tRef 6 0) (eCons 16 (tP (aI .i64)) eNil))))) (bCons 2 (xVr cS4) (bCons 3 (xVr cS4) (bCons 5 (xVr cS3) (bCons 6 (xVr cS3) bNil))))
@[reducible] def impl_clash2.B5 : Type := ((Bool × Unit) × (Unit)) ⊕ ((Unit) × (Unit))
noncomputable def impl_clash2.X5 : XC impl_clash2.B5 := xOr (xRet (sC ⟨[], [4], [], [], []⟩ (eCons 4 (tP aB) eNil) bNil)) (xExit 0 (sC ⟨[], [], [], [], []⟩ eNil bNil))
noncomputable def impl_clash2.s5 (k : Nat)  (J : Int → S4 → S4 → S3 → S3 → Option impl_clash2.B5) (x16 : Int) (b2 : S4) (b3 : S4) (b5 : S3) (b6 : S3) : Option impl_clash2.B5 :=
  if (decide (x16 < 3)) = true then (if 0 ≤ x16 then (if x16 < 3 then (if ((sel [b5.x, b5.y, b5.z] x16) != 0) = true then (if 0 ≤ x16 then (if x16 < 3 then (if 0 ≤ x16 then (if x16 < 3 then (if 0 ≤ x16 then (if x16 < 3 then (if 0 ≤ x16 then (if x16 < 3 then (some (.inl (((decide ((W ((W (b2.d * (if (W (0 - (sel [b6.x, b6.y, b6.z] x16))) > (sel [b6.x, b6.y, b6.z] x16) then (W (0 - (sel [b6.x, b6.y, b6.z] x16))) else (sel [b6.x, b6.y, b6.z] x16)))) + (W (b3.d * (if (W (0 - (sel [b5.x, b5.y, b5.z] x16))) > (sel [b5.x, b5.y, b5.z] x16) then (W (0 - (sel [b5.x, b5.y, b5.z] x16))) else (sel [b5.x, b5.y, b5.z] x16)))))) ≤ 0)), ()), (())))) else none) else none) else none) else none) else none) else none) else none) else none) else (J (W (x16 + 1)) b2 b3 b5 b6)) else none) else none) else (some (.inr ((()), (()))))
noncomputable def impl_clash2.l5 (k : Nat)  : Nat → Int → S4 → S4 → S3 → S3 → Option impl_clash2.B5
  | 0, _, _, _, _, _ => none
  | n + 1, x16, b2, b3, b5, b6 => impl_clash2.s5 k (impl_clash2.l5 k n) x16 b2 b3 b5 b6
noncomputable def impl_clash2.f (k : Nat) (a0 : S4) (a1 : S4) : Option Bool :=
  (impl_parallel.f k  a0 a1).bind fun t1 => if (decide (t1 ≥ 0)) = true then (some false) else ((impl_normal.f k  a0).bind fun t2 => (impl_normal.f k  a1).bind fun t3 => (impl_clash2.l5 k k 0 a0 a1 t2 t3).bind fun | .inl r4 => (some r4.1.1) | .inr x5 => (some false))
noncomputable def impl_clash2.e (k : Nat) : FE := { α := S4 × S4 × Unit, β := Bool, args := (lCons aS4 (lCons aS4 lNil)), ret := (rOne aB), f := fun p => impl_clash2.f k p.1 p.2.1 }
noncomputable def impl_clash2.c (k : Nat) : List (Nat × CE) := [(129, .fn (impl_parallel.e k)), (134, .fn (impl_normal.e k))]
noncomputable def impl_clash2.bd : Code := match Try.f205.body with | some c => c | none => .skip
noncomputable def impl_clash2.e5 (k : Nat) : LE := { H := impl_clash2.H5, α := impl_clash2.A5, β := impl_clash2.B5, st := impl_clash2.Z5, xt := impl_clash2.X5, f := fun p => impl_clash2.l5 k k p.1.2.2.2.2.1 p.2.1 p.2.2.1 p.2.2.2.1 p.2.2.2.2.1 }
noncomputable def impl_clash2.g (k : Nat) : List (Nat × LE) := [(5, impl_clash2.e5 k)]
theorem impl_clash2.t5 (k : Nat) (I : S2 → Option impl_clash2.B5) (x16 : Int) (b2 : S4) (b3 : S4) (b5 : S3) (b6 : S3) : stepOf (mkCx Try.prog (impl_clash2.c k) (impl_clash2.g k) : Cx impl_clash2.B5) (loopAt impl_clash2.bd 0) impl_clash2.H5 impl_clash2.X5.dec I (impl_clash2.Z5.enc (((), (), (), (), x16, ()), (b2, b3, b5, b6, ()))) = impl_clash2.s5 k (fun x16 b2 b3 b5 b6 => I (impl_clash2.Z5.enc (((), (), (), (), x16, ()), (b2, b3, b5, b6, ())))) x16 b2 b3 b5 b6 := by kernel_rfl
theorem impl_clash2.i5 (k : Nat) : ∀ (n : Nat) (x16 : Int) (b2 : S4) (b3 : S4) (b5 : S3) (b6 : S3), iter (evCode (mkCx Try.prog (impl_clash2.c k) (impl_clash2.g k) : Cx impl_clash2.B5) (loopAt impl_clash2.bd 0)) impl_clash2.H5 impl_clash2.X5.dec n (impl_clash2.Z5.enc (((), (), (), (), x16, ()), (b2, b3, b5, b6, ()))) = impl_clash2.l5 k n x16 b2 b3 b5 b6
  | 0, _, _, _, _, _ => rfl
  | n + 1, x16, b2, b3, b5, b6 => ((iter_step _ _ _ _ n _).trans (impl_clash2.t5 k _ x16 b2 b3 b5 b6)).trans (congrArg (fun J => impl_clash2.s5 k J x16 b2 b3 b5 b6) (funext fun x16 => funext fun b2 => funext fun b3 => funext fun b5 => funext fun b6 => impl_clash2.i5 k n x16 b2 b3 b5 b6))
theorem impl_clash2.to5 (k : Nat) (hC : AllFun Try.prog (impl_clash2.c k)) : LoopTo Try.prog 48 (impl_clash2.e5 k) (loopAt impl_clash2.bd 0) := loop_to mixed hC (by kernel_rfl) (loops_all 0 (by kernel_rfl) fun i hi => absurd hi (Nat.not_lt_zero i)) fun a b h => ⟨k, (impl_clash2.i5 k k a.1.2.2.2.2.1 a.2.1 a.2.2.1 a.2.2.2.1 a.2.2.2.2.1).trans h⟩
theorem impl_clash2.link (k : Nat) (a0 : S4) (a1 : S4) : evFun (mkCx Try.prog (impl_clash2.c k) (impl_clash2.g k) : Cx Bool) Try.f205 ((impl_clash2.e k).args.enc (a0, a1, ())) (impl_clash2.e k).ret.dec = impl_clash2.f k a0 a1 := by kernel_rfl
theorem impl_clash2.ok1 (k : Nat) (hC : AllFun Try.prog (impl_clash2.c k)) : Fun Try.prog 205 (impl_clash2.e k).G := fun_ok mixed (body := impl_clash2.bd) Try.func205 (by kernel_rfl) (by kernel_rfl) (by kernel_rfl) hC (loops_all 1 (by kernel_rfl) fun i hi => by obtain rfl : i = 0 := Nat.lt_one_iff.1 hi; exact ⟨impl_clash2.e5 k, by kernel_rfl, impl_clash2.to5 k hC⟩) (impl_clash2.e k) (fun a => Nat.le_of_ble_eq_true (by kernel_rfl)) fun a b h => (impl_clash2.link k a.1 a.2.1).trans h
theorem impl_clash2.ok (k : Nat) : Fun Try.prog 205 (impl_clash2.e k).G := impl_clash2.ok1 k ⟨impl_parallel.ok k, impl_normal.ok k, trivial⟩

noncomputable def impl_det.f (k : Nat) (a0 : S3) (a1 : S3) (a2 : S3) : Option Int :=
  (impl_crossOf.f k  a1 a2).bind fun t1 => (impl_dot.f k  a0 t1).bind fun t2 => some t2
noncomputable def impl_det.e (k : Nat) : FE := { α := S3 × S3 × S3 × Unit, β := Int, args := (lCons aS3 (lCons aS3 (lCons aS3 lNil))), ret := (rOne (aI .i64)), f := fun p => impl_det.f k p.1 p.2.1 p.2.2.1 }
noncomputable def impl_det.c (k : Nat) : List (Nat × CE) := [(133, .fn (impl_crossOf.e k)), (192, .fn (impl_dot.e k))]
noncomputable def impl_det.bd : Code := match Try.f140.body with | some c => c | none => .skip
noncomputable def impl_det.g (k : Nat) : List (Nat × LE) := []
theorem impl_det.link (k : Nat) (a0 : S3) (a1 : S3) (a2 : S3) : evFun (mkCx Try.prog (impl_det.c k) (impl_det.g k) : Cx Int) Try.f140 ((impl_det.e k).args.enc (a0, a1, a2, ())) (impl_det.e k).ret.dec = impl_det.f k a0 a1 a2 := by kernel_rfl
theorem impl_det.ok1 (k : Nat) (hC : AllFun Try.prog (impl_det.c k)) : Fun Try.prog 140 (impl_det.e k).G := fun_ok mixed (body := impl_det.bd) Try.func140 (by kernel_rfl) (by kernel_rfl) (by kernel_rfl) hC (loops_all 0 (by kernel_rfl) fun i hi => absurd hi (Nat.not_lt_zero i)) (impl_det.e k) (fun a => Nat.le_of_ble_eq_true (by kernel_rfl)) fun a b h => (impl_det.link k a.1 a.2.1 a.2.2.1).trans h
theorem impl_det.ok (k : Nat) : Fun Try.prog 140 (impl_det.e k).G := impl_det.ok1 k ⟨impl_crossOf.ok k, impl_dot.ok k, trivial⟩

noncomputable def impl_weighs.H4 : Hd := ⟨[], [1, 5, 6, 13, 14, 15], [], [], []⟩
@[reducible] def impl_weighs.A4 : Type := (((List Int) × Int × Int × (List Int) × Int × Int × Unit) × (Unit))
noncomputable def impl_weighs.Z4 : SC impl_weighs.A4 := sC impl_weighs.H4 (eCons 1 (tP (aSl (.i .i64))) (eCons 5 (tP (aI .i64)) (eCons 6 (tP (aI .i64)) (eCons 13 (tP (aSl (.i .i64))) (eCons 14 (tP (aI .i64)) (eCons 15 (tP (aI .i64)) eNil)))))) bNil
@[reducible] def impl_weighs.B4 : Type := ((Bool × Unit) × (Unit)) ⊕ ((Int × Int × Unit) × (Unit))
noncomputable def impl_weighs.X4 : XC impl_weighs.B4 := xOr (xRet (sC ⟨[], [4], [], [], []⟩ (eCons 4 (tP aB) eNil) bNil)) (xExit 0 (sC ⟨[], [5, 6], [], [], []⟩ (eCons 5 (tP (aI .i64)) (eCons 6 (tP (aI .i64)) eNil)) bNil))
noncomputable def impl_weighs.s4 (k : Nat)  (J : (List Int) → Int → Int → (List Int) → Int → Int → Option impl_weighs.B4) (x1 : List Int) (x5 : Int) (x6 : Int) (x13 : List Int) (x14 : Int) (x15 : Int) : Option impl_weighs.B4 :=
  if (decide (x15 < x14)) = true then (if 0 ≤ x15 then (if x15 < (x13.length : Int) then (if (x5 == 0) = true then (some (.inl ((false, ()), (())))) else ((impl_sign.f k  (rd x13 x15)).bind fun t2 => if (t2 != x5) = true then (some (.inl ((false, ()), (())))) else (if 0 ≤ x15 then (if x15 < (x1.length : Int) then (J x1 x5 (W (x6 + (W ((rd x13 x15) * (rd x1 x15))))) x13 x14 (W (x15 + 1))) else none) else none))) else none) else none) else (some (.inr ((x5, x6, ()), (()))))
noncomputable def impl_weighs.l4 (k : Nat)  : Nat → (List Int) → Int → Int → (List Int) → Int → Int → Option impl_weighs.B4
  | 0, _, _, _, _, _, _ => none
  | n + 1, x1, x5, x6, x13, x14, x15 => impl_weighs.s4 k (impl_weighs.l4 k n) x1 x5 x6 x13 x14 x15
noncomputable def impl_weighs.f (k : Nat) (a0 : List Int) (a1 : List Int) : Option Bool :=
  if 0 ≤ 0 then (if 0 < (a0.length : Int) then ((impl_sign.f k  (rd a0 0)).bind fun t1 => (impl_weighs.l4 k k a1 t1 0 a0 (a0.length : Int) 0).bind fun | .inl r3 => (some r3.1.1) | .inr x4 => (some (decide ((W (x4.1.2.1 * x4.1.1)) ≤ 0)))) else none) else none
noncomputable def impl_weighs.e (k : Nat) : FE := { α := (List Int) × (List Int) × Unit, β := Bool, args := (lCons (aSl (.i .i64)) (lCons (aSl (.i .i64)) lNil)), ret := (rOne aB), f := fun p => impl_weighs.f k p.1 p.2.1 }
noncomputable def impl_weighs.c (k : Nat) : List (Nat × CE) := [(127, .fn (impl_sign.e k))]
noncomputable def impl_weighs.bd : Code := match Try.f226.body with | some c => c | none => .skip
noncomputable def impl_weighs.e4 (k : Nat) : LE := { H := impl_weighs.H4, α := impl_weighs.A4, β := impl_weighs.B4, st := impl_weighs.Z4, xt := impl_weighs.X4, f := fun p => impl_weighs.l4 k k p.1.1 p.1.2.1 p.1.2.2.1 p.1.2.2.2.1 p.1.2.2.2.2.1 p.1.2.2.2.2.2.1 }
noncomputable def impl_weighs.g (k : Nat) : List (Nat × LE) := [(4, impl_weighs.e4 k)]
theorem impl_weighs.t4 (k : Nat) (I : S2 → Option impl_weighs.B4) (x1 : List Int) (x5 : Int) (x6 : Int) (x13 : List Int) (x14 : Int) (x15 : Int) : stepOf (mkCx Try.prog (impl_weighs.c k) (impl_weighs.g k) : Cx impl_weighs.B4) (loopAt impl_weighs.bd 0) impl_weighs.H4 impl_weighs.X4.dec I (impl_weighs.Z4.enc ((x1, x5, x6, x13, x14, x15, ()), (()))) = impl_weighs.s4 k (fun x1 x5 x6 x13 x14 x15 => I (impl_weighs.Z4.enc ((x1, x5, x6, x13, x14, x15, ()), (())))) x1 x5 x6 x13 x14 x15 := by kernel_rfl
theorem impl_weighs.i4 (k : Nat) : ∀ (n : Nat) (x1 : List Int) (x5 : Int) (x6 : Int) (x13 : List Int) (x14 : Int) (x15 : Int), iter (evCode (mkCx Try.prog (impl_weighs.c k) (impl_weighs.g k) : Cx impl_weighs.B4) (loopAt impl_weighs.bd 0)) impl_weighs.H4 impl_weighs.X4.dec n (impl_weighs.Z4.enc ((x1, x5, x6, x13, x14, x15, ()), (()))) = impl_weighs.l4 k n x1 x5 x6 x13 x14 x15
  | 0, _, _, _, _, _, _ => rfl
  | n + 1, x1, x5, x6, x13, x14, x15 => ((iter_step _ _ _ _ n _).trans (impl_weighs.t4 k _ x1 x5 x6 x13 x14 x15)).trans (congrArg (fun J => impl_weighs.s4 k J x1 x5 x6 x13 x14 x15) (funext fun x1 => funext fun x5 => funext fun x6 => funext fun x13 => funext fun x14 => funext fun x15 => impl_weighs.i4 k n x1 x5 x6 x13 x14 x15))
theorem impl_weighs.to4 (k : Nat) (hC : AllFun Try.prog (impl_weighs.c k)) : LoopTo Try.prog 41 (impl_weighs.e4 k) (loopAt impl_weighs.bd 0) := loop_to mixed hC (by kernel_rfl) (loops_all 0 (by kernel_rfl) fun i hi => absurd hi (Nat.not_lt_zero i)) fun a b h => ⟨k, (impl_weighs.i4 k k a.1.1 a.1.2.1 a.1.2.2.1 a.1.2.2.2.1 a.1.2.2.2.2.1 a.1.2.2.2.2.2.1).trans h⟩
theorem impl_weighs.link (k : Nat) (a0 : List Int) (a1 : List Int) : evFun (mkCx Try.prog (impl_weighs.c k) (impl_weighs.g k) : Cx Bool) Try.f226 ((impl_weighs.e k).args.enc (a0, a1, ())) (impl_weighs.e k).ret.dec = impl_weighs.f k a0 a1 := by kernel_rfl
theorem impl_weighs.ok1 (k : Nat) (hC : AllFun Try.prog (impl_weighs.c k)) : Fun Try.prog 226 (impl_weighs.e k).G := fun_ok mixed (body := impl_weighs.bd) Try.func226 (by kernel_rfl) (by kernel_rfl) (by kernel_rfl) hC (loops_all 1 (by kernel_rfl) fun i hi => by obtain rfl : i = 0 := Nat.lt_one_iff.1 hi; exact ⟨impl_weighs.e4 k, by kernel_rfl, impl_weighs.to4 k hC⟩) (impl_weighs.e k) (fun a => Nat.le_of_ble_eq_true (by kernel_rfl)) fun a b h => (impl_weighs.link k a.1 a.2.1).trans h
theorem impl_weighs.ok (k : Nat) : Fun Try.prog 226 (impl_weighs.e k).G := impl_weighs.ok1 k ⟨impl_sign.ok k, trivial⟩

noncomputable def impl_clash3.f (k : Nat) (a0 : S4) (a1 : S4) (a2 : S4) : Option Bool :=
  (impl_normal.f k  a0).bind fun t1 => (impl_normal.f k  a1).bind fun t2 => (impl_normal.f k  a2).bind fun t3 => (impl_det.f k  t1 t2 t3).bind fun t4 => if (t4 != 0) = true then (some false) else ((impl_crossOf.f k  t1 t2).bind fun t5 => (impl_crossOf.f k  t2 t3).bind fun t6 => (impl_dot.f k  t6 t5).bind fun t7 => (impl_crossOf.f k  t3 t1).bind fun t8 => (impl_dot.f k  t8 t5).bind fun t9 => (impl_dot.f k  t5 t5).bind fun t10 => (impl_weighs.f k  ([t7, t9, t10] : List Int) ([a0.d, a1.d, a2.d] : List Int)).bind fun t11 => some t11)
noncomputable def impl_clash3.e (k : Nat) : FE := { α := S4 × S4 × S4 × Unit, β := Bool, args := (lCons aS4 (lCons aS4 (lCons aS4 lNil))), ret := (rOne aB), f := fun p => impl_clash3.f k p.1 p.2.1 p.2.2.1 }
noncomputable def impl_clash3.c (k : Nat) : List (Nat × CE) := [(134, .fn (impl_normal.e k)), (140, .fn (impl_det.e k)), (133, .fn (impl_crossOf.e k)), (192, .fn (impl_dot.e k)), (226, .fn (impl_weighs.e k))]
noncomputable def impl_clash3.bd : Code := match Try.f206.body with | some c => c | none => .skip
noncomputable def impl_clash3.g (k : Nat) : List (Nat × LE) := []
theorem impl_clash3.link (k : Nat) (a0 : S4) (a1 : S4) (a2 : S4) : evFun (mkCx Try.prog (impl_clash3.c k) (impl_clash3.g k) : Cx Bool) Try.f206 ((impl_clash3.e k).args.enc (a0, a1, a2, ())) (impl_clash3.e k).ret.dec = impl_clash3.f k a0 a1 a2 := by kernel_rfl
theorem impl_clash3.ok1 (k : Nat) (hC : AllFun Try.prog (impl_clash3.c k)) : Fun Try.prog 206 (impl_clash3.e k).G := fun_ok mixed (body := impl_clash3.bd) Try.func206 (by kernel_rfl) (by kernel_rfl) (by kernel_rfl) hC (loops_all 0 (by kernel_rfl) fun i hi => absurd hi (Nat.not_lt_zero i)) (impl_clash3.e k) (fun a => Nat.le_of_ble_eq_true (by kernel_rfl)) fun a b h => (impl_clash3.link k a.1 a.2.1 a.2.2.1).trans h
theorem impl_clash3.ok (k : Nat) : Fun Try.prog 206 (impl_clash3.e k).G := impl_clash3.ok1 k ⟨impl_normal.ok k, impl_det.ok k, impl_crossOf.ok k, impl_dot.ok k, impl_weighs.ok k, trivial⟩

noncomputable def impl_det3.f (k : Nat) (a0 : S4) (a1 : S4) (a2 : S4) : Option Int :=
  (impl_normal.f k  a0).bind fun t1 => (impl_normal.f k  a1).bind fun t2 => (impl_normal.f k  a2).bind fun t3 => (impl_det.f k  t1 t2 t3).bind fun t4 => some t4
noncomputable def impl_det3.e (k : Nat) : FE := { α := S4 × S4 × S4 × Unit, β := Int, args := (lCons aS4 (lCons aS4 (lCons aS4 lNil))), ret := (rOne (aI .i64)), f := fun p => impl_det3.f k p.1 p.2.1 p.2.2.1 }
noncomputable def impl_det3.c (k : Nat) : List (Nat × CE) := [(134, .fn (impl_normal.e k)), (140, .fn (impl_det.e k))]
noncomputable def impl_det3.bd : Code := match Try.f132.body with | some c => c | none => .skip
noncomputable def impl_det3.g (k : Nat) : List (Nat × LE) := []
theorem impl_det3.link (k : Nat) (a0 : S4) (a1 : S4) (a2 : S4) : evFun (mkCx Try.prog (impl_det3.c k) (impl_det3.g k) : Cx Int) Try.f132 ((impl_det3.e k).args.enc (a0, a1, a2, ())) (impl_det3.e k).ret.dec = impl_det3.f k a0 a1 a2 := by kernel_rfl
theorem impl_det3.ok1 (k : Nat) (hC : AllFun Try.prog (impl_det3.c k)) : Fun Try.prog 132 (impl_det3.e k).G := fun_ok mixed (body := impl_det3.bd) Try.func132 (by kernel_rfl) (by kernel_rfl) (by kernel_rfl) hC (loops_all 0 (by kernel_rfl) fun i hi => absurd hi (Nat.not_lt_zero i)) (impl_det3.e k) (fun a => Nat.le_of_ble_eq_true (by kernel_rfl)) fun a b h => (impl_det3.link k a.1 a.2.1 a.2.2.1).trans h
theorem impl_det3.ok (k : Nat) : Fun Try.prog 132 (impl_det3.e k).G := impl_det3.ok1 k ⟨impl_normal.ok k, impl_det.ok k, trivial⟩

noncomputable def impl_clash4.f (k : Nat) (a0 : S4) (a1 : S4) (a2 : S4) (a3 : S4) : Option Bool :=
  (impl_det3.f k  a1 a2 a3).bind fun t1 => (impl_det3.f k  a0 a2 a3).bind fun t2 => (impl_det3.f k  a0 a1 a3).bind fun t3 => (impl_det3.f k  a0 a1 a2).bind fun t4 => (impl_weighs.f k  ([t1, (W (0 - t2)), t3, (W (0 - t4))] : List Int) ([a0.d, a1.d, a2.d, a3.d] : List Int)).bind fun t5 => some t5
noncomputable def impl_clash4.e (k : Nat) : FE := { α := S4 × S4 × S4 × S4 × Unit, β := Bool, args := (lCons aS4 (lCons aS4 (lCons aS4 (lCons aS4 lNil)))), ret := (rOne aB), f := fun p => impl_clash4.f k p.1 p.2.1 p.2.2.1 p.2.2.2.1 }
noncomputable def impl_clash4.c (k : Nat) : List (Nat × CE) := [(132, .fn (impl_det3.e k)), (226, .fn (impl_weighs.e k))]
noncomputable def impl_clash4.bd : Code := match Try.f207.body with | some c => c | none => .skip
noncomputable def impl_clash4.g (k : Nat) : List (Nat × LE) := []
theorem impl_clash4.link (k : Nat) (a0 : S4) (a1 : S4) (a2 : S4) (a3 : S4) : evFun (mkCx Try.prog (impl_clash4.c k) (impl_clash4.g k) : Cx Bool) Try.f207 ((impl_clash4.e k).args.enc (a0, a1, a2, a3, ())) (impl_clash4.e k).ret.dec = impl_clash4.f k a0 a1 a2 a3 := by kernel_rfl
theorem impl_clash4.ok1 (k : Nat) (hC : AllFun Try.prog (impl_clash4.c k)) : Fun Try.prog 207 (impl_clash4.e k).G := fun_ok mixed (body := impl_clash4.bd) Try.func207 (by kernel_rfl) (by kernel_rfl) (by kernel_rfl) hC (loops_all 0 (by kernel_rfl) fun i hi => absurd hi (Nat.not_lt_zero i)) (impl_clash4.e k) (fun a => Nat.le_of_ble_eq_true (by kernel_rfl)) fun a b h => (impl_clash4.link k a.1 a.2.1 a.2.2.1 a.2.2.2.1).trans h
theorem impl_clash4.ok (k : Nat) : Fun Try.prog 207 (impl_clash4.e k).G := impl_clash4.ok1 k ⟨impl_det3.ok k, impl_weighs.ok k, trivial⟩

end Go.Proofs.Ytlkcpldohlemcaa.G
