/- Go functions told as plain Lean functions; that the code does what these tell. Printed by a program of the session (evp.py). -/
import Derived.Test.YtfgaeenlnkioaaaEv16
namespace Go.Proofs.Ytfgaeenlnkioaaa.G
open Go Go.RowKit Go.Proofs Go.Proofs.Ytfgaeenlnkioaaa.Ev
set_option linter.unusedVariables false
set_option maxRecDepth 100000

noncomputable def laws_eqPlane.f (k : Nat) (a0 : S4) (a1 : S4) : Option Bool :=
  if (a0.a != a1.a) = true then (some false) else (if (a0.b != a1.b) = true then (some false) else (if (a0.c != a1.c) = true then (some false) else (if (a0.d != a1.d) = true then (some false) else (some true))))
noncomputable def laws_eqPlane.e (k : Nat) : FE := { α := S4 × S4 × Unit, β := Bool, args := (lCons aS4 (lCons aS4 lNil)), ret := (rOne aB), f := fun p => laws_eqPlane.f k p.1 p.2.1 }
noncomputable def laws_eqPlane.c (k : Nat) : List (Nat × CE) := []
noncomputable def laws_eqPlane.bd : Code := match Try.f63.body with | some c => c | none => .skip
noncomputable def laws_eqPlane.g (k : Nat) : List (Nat × LE) := []
theorem laws_eqPlane.link (k : Nat) (a0 : S4) (a1 : S4) : evFun (mkCx Try.prog (laws_eqPlane.c k) (laws_eqPlane.g k) : Cx Bool) Try.f63 ((laws_eqPlane.e k).args.enc (a0, a1, ())) (laws_eqPlane.e k).ret.dec = laws_eqPlane.f k a0 a1 := by kernel_rfl
theorem laws_eqPlane.ok1 (k : Nat) (hC : AllFun Try.prog (laws_eqPlane.c k)) : Fun Try.prog 63 (laws_eqPlane.e k).G := fun_ok mixed (body := laws_eqPlane.bd) Try.func63 (by kernel_rfl) (by kernel_rfl) (by kernel_rfl) hC (loops_all 0 (by kernel_rfl) fun i hi => absurd hi (Nat.not_lt_zero i)) (laws_eqPlane.e k) (fun a => Nat.le_of_ble_eq_true (by kernel_rfl)) fun a b h => (laws_eqPlane.link k a.1 a.2.1).trans h
theorem laws_eqPlane.ok (k : Nat) : Fun Try.prog 63 (laws_eqPlane.e k).G := laws_eqPlane.ok1 k trivial

noncomputable def laws_eqSolidS.H4 : Hd := ⟨[], [0, 1, 5], []⟩
@[reducible] def laws_eqSolidS.A4 : Type := (((List Tree) × (List Tree) × Int × Unit) × (Unit))
noncomputable def laws_eqSolidS.Z4 : SC laws_eqSolidS.A4 := sC laws_eqSolidS.H4 (eCons 0 (tP (aSl .tree)) (eCons 1 (tP (aSl .tree)) (eCons 5 (tP (aI .i64)) eNil))) bNil
@[reducible] def laws_eqSolidS.B4 : Type := ((Bool × Unit) × (Unit)) ⊕ ((Unit) × (Unit))
noncomputable def laws_eqSolidS.X4 : XC laws_eqSolidS.B4 := xOr (xRet (sC ⟨[], [4], []⟩ (eCons 4 (tP aB) eNil) bNil)) (xExit 0 (sC ⟨[], [], []⟩ eNil bNil))
noncomputable def laws_eqSolidS.s4 (k : Nat) (self18 : Tree → Tree → Option Bool) (self64 : (List Tree) → (List Tree) → Option Bool) (J : (List Tree) → (List Tree) → Int → Option laws_eqSolidS.B4) (x0 : List Tree) (x1 : List Tree) (x5 : Int) : Option laws_eqSolidS.B4 :=
  if (decide (x5 < (x0.length : Int))) = true then (if 0 ≤ x5 then (if x5 < (x0.length : Int) then (if 0 ≤ x5 then (if x5 < (x1.length : Int) then ((self18  (T1 (rd x0 x5)) (T1 (rd x1 x5))).bind fun t1 => if (!t1) = true then (some (.inl ((false, ()), (())))) else (J x0 x1 (W (x5 + 1)))) else none) else none) else none) else none) else (some (.inr ((()), (()))))
noncomputable def laws_eqSolidS.l4 (k : Nat) (self18 : Tree → Tree → Option Bool) (self64 : (List Tree) → (List Tree) → Option Bool) : Nat → (List Tree) → (List Tree) → Int → Option laws_eqSolidS.B4
  | 0, _, _, _ => none
  | n + 1, x0, x1, x5 => laws_eqSolidS.s4 k self18 self64 (laws_eqSolidS.l4 k self18 self64 n) x0 x1 x5
noncomputable def laws_eqSolidS.fs (k : Nat) (self18 : Tree → Tree → Option Bool) (self64 : (List Tree) → (List Tree) → Option Bool) (a0 : List Tree) (a1 : List Tree) : Option Bool :=
  if ((a0.length : Int) != (a1.length : Int)) = true then (some false) else ((laws_eqSolidS.l4 k self18 self64 k a0 a1 0).bind fun | .inl r2 => (some r2.1.1) | .inr x3 => (some true))
noncomputable def laws_eqSolid.fs (k : Nat) (self18 : Tree → Tree → Option Bool) (self64 : (List Tree) → (List Tree) → Option Bool) (a0 : Tree) (a1 : Tree) : Option Bool :=
  if (!(a0.inn == a1.inn)) = true then (some false) else ((laws_eqPlane.f k  a0.p a1.p).bind fun t1 => if (!t1) = true then (some false) else ((self64  a0.kids a1.kids).bind fun t2 => if (!t2) = true then (some false) else (some true)))
mutual
noncomputable def laws_eqSolidS.f : Nat → (List Tree) → (List Tree) → Option Bool
  | 0, _, _ => none
  | k + 1, a0, a1 => laws_eqSolidS.fs k (laws_eqSolid.f k) (laws_eqSolidS.f k) a0 a1
noncomputable def laws_eqSolid.f : Nat → Tree → Tree → Option Bool
  | 0, _, _ => none
  | k + 1, a0, a1 => laws_eqSolid.fs k (laws_eqSolid.f k) (laws_eqSolidS.f k) a0 a1
end
theorem laws_eqSolidS.fS (k : Nat) (a0 : List Tree) (a1 : List Tree) : laws_eqSolidS.f (k + 1) a0 a1 = laws_eqSolidS.fs k (laws_eqSolid.f k) (laws_eqSolidS.f k) a0 a1 := by first | rfl | rw [laws_eqSolidS.f]
theorem laws_eqSolid.fS (k : Nat) (a0 : Tree) (a1 : Tree) : laws_eqSolid.f (k + 1) a0 a1 = laws_eqSolid.fs k (laws_eqSolid.f k) (laws_eqSolidS.f k) a0 a1 := by first | rfl | rw [laws_eqSolid.f]
noncomputable def laws_eqSolidS.e (k : Nat) : FE := { α := (List Tree) × (List Tree) × Unit, β := Bool, args := (lCons (aSl .tree) (lCons (aSl .tree) lNil)), ret := (rOne aB), f := fun p => laws_eqSolidS.f k p.1 p.2.1 }
noncomputable def laws_eqSolid.e (k : Nat) : FE := { α := Tree × Tree × Unit, β := Bool, args := (lCons aTree (lCons aTree lNil)), ret := (rOne aB), f := fun p => laws_eqSolid.f k p.1 p.2.1 }
noncomputable def laws_eqSolidS.c (k : Nat) : List (Nat × CE) := [(18, .fn (laws_eqSolid.e k))]
noncomputable def laws_eqSolidS.bd : Code := match Try.f64.body with | some c => c | none => .skip
noncomputable def laws_eqSolidS.e4 (k : Nat) : LE := { H := laws_eqSolidS.H4, α := laws_eqSolidS.A4, β := laws_eqSolidS.B4, st := laws_eqSolidS.Z4, xt := laws_eqSolidS.X4, f := fun p => laws_eqSolidS.l4 k (laws_eqSolid.f k) (laws_eqSolidS.f k) k p.1.1 p.1.2.1 p.1.2.2.1 }
noncomputable def laws_eqSolidS.g (k : Nat) : List (Nat × LE) := [(4, laws_eqSolidS.e4 k)]
theorem laws_eqSolidS.t4 (k : Nat) (I : S2 → Option laws_eqSolidS.B4) (x0 : List Tree) (x1 : List Tree) (x5 : Int) : stepOf (mkCx Try.prog (laws_eqSolidS.c k) (laws_eqSolidS.g k) : Cx laws_eqSolidS.B4) (loopAt laws_eqSolidS.bd 0) laws_eqSolidS.H4 laws_eqSolidS.X4.dec I (laws_eqSolidS.Z4.enc ((x0, x1, x5, ()), (()))) = laws_eqSolidS.s4 k (laws_eqSolid.f k) (laws_eqSolidS.f k) (fun x0 x1 x5 => I (laws_eqSolidS.Z4.enc ((x0, x1, x5, ()), (())))) x0 x1 x5 := by kernel_rfl
theorem laws_eqSolidS.i4 (k : Nat) : ∀ (n : Nat) (x0 : List Tree) (x1 : List Tree) (x5 : Int), iter (evCode (mkCx Try.prog (laws_eqSolidS.c k) (laws_eqSolidS.g k) : Cx laws_eqSolidS.B4) (loopAt laws_eqSolidS.bd 0)) laws_eqSolidS.H4 laws_eqSolidS.X4.dec n (laws_eqSolidS.Z4.enc ((x0, x1, x5, ()), (()))) = laws_eqSolidS.l4 k (laws_eqSolid.f k) (laws_eqSolidS.f k) n x0 x1 x5
  | 0, _, _, _ => rfl
  | n + 1, x0, x1, x5 => ((iter_step _ _ _ _ n _).trans (laws_eqSolidS.t4 k _ x0 x1 x5)).trans (congrArg (fun J => laws_eqSolidS.s4 k (laws_eqSolid.f k) (laws_eqSolidS.f k) J x0 x1 x5) (funext fun x0 => funext fun x1 => funext fun x5 => laws_eqSolidS.i4 k n x0 x1 x5))
theorem laws_eqSolidS.to4 (k : Nat) (hC : AllFun Try.prog (laws_eqSolidS.c k)) : LoopTo Try.prog 27 (laws_eqSolidS.e4 k) (loopAt laws_eqSolidS.bd 0) := loop_to mixed hC (by kernel_rfl) (loops_all 0 (by kernel_rfl) fun i hi => absurd hi (Nat.not_lt_zero i)) fun a b h => ⟨k, (laws_eqSolidS.i4 k k a.1.1 a.1.2.1 a.1.2.2.1).trans h⟩
theorem laws_eqSolidS.link (k : Nat) (a0 : List Tree) (a1 : List Tree) : evFun (mkCx Try.prog (laws_eqSolidS.c k) (laws_eqSolidS.g k) : Cx Bool) Try.f64 ((laws_eqSolidS.e (k + 1)).args.enc (a0, a1, ())) (laws_eqSolidS.e (k + 1)).ret.dec = laws_eqSolidS.fs k (laws_eqSolid.f k) (laws_eqSolidS.f k) a0 a1 := by kernel_rfl
theorem laws_eqSolidS.ok1 (k : Nat) (hC : AllFun Try.prog (laws_eqSolidS.c k)) : Fun Try.prog 64 (laws_eqSolidS.e (k + 1)).G := fun_ok mixed (body := laws_eqSolidS.bd) Try.func64 (by kernel_rfl) (by kernel_rfl) (by kernel_rfl) hC (loops_all 1 (by kernel_rfl) fun i hi => by obtain rfl : i = 0 := Nat.lt_one_iff.1 hi; exact ⟨laws_eqSolidS.e4 k, by kernel_rfl, laws_eqSolidS.to4 k hC⟩) (laws_eqSolidS.e (k + 1)) (fun a => Nat.le_of_ble_eq_true (by kernel_rfl)) fun a b h => (laws_eqSolidS.link k a.1 a.2.1).trans ((laws_eqSolidS.fS k a.1 a.2.1).symm.trans h)
noncomputable def laws_eqSolid.c (k : Nat) : List (Nat × CE) := [(63, .fn (laws_eqPlane.e k)), (64, .fn (laws_eqSolidS.e k))]
noncomputable def laws_eqSolid.bd : Code := match Try.f18.body with | some c => c | none => .skip
noncomputable def laws_eqSolid.g (k : Nat) : List (Nat × LE) := []
theorem laws_eqSolid.link (k : Nat) (a0 : Tree) (a1 : Tree) : evFun (mkCx Try.prog (laws_eqSolid.c k) (laws_eqSolid.g k) : Cx Bool) Try.f18 ((laws_eqSolid.e (k + 1)).args.enc (a0, a1, ())) (laws_eqSolid.e (k + 1)).ret.dec = laws_eqSolid.fs k (laws_eqSolid.f k) (laws_eqSolidS.f k) a0 a1 := by kernel_rfl
theorem laws_eqSolid.ok1 (k : Nat) (hC : AllFun Try.prog (laws_eqSolid.c k)) : Fun Try.prog 18 (laws_eqSolid.e (k + 1)).G := fun_ok mixed (body := laws_eqSolid.bd) Try.func18 (by kernel_rfl) (by kernel_rfl) (by kernel_rfl) hC (loops_all 0 (by kernel_rfl) fun i hi => absurd hi (Nat.not_lt_zero i)) (laws_eqSolid.e (k + 1)) (fun a => Nat.le_of_ble_eq_true (by kernel_rfl)) fun a b h => (laws_eqSolid.link k a.1 a.2.1).trans ((laws_eqSolid.fS k a.1 a.2.1).symm.trans h)
theorem laws_eqSolidS.okk : ∀ k, Fun Try.prog 64 (laws_eqSolidS.e k).G ∧ Fun Try.prog 18 (laws_eqSolid.e k).G
  | 0 => ⟨fun_zero (by kernel_rfl) fun _ => rfl, fun_zero (by kernel_rfl) fun _ => rfl⟩
  | k + 1 => have h := laws_eqSolidS.okk k; ⟨laws_eqSolidS.ok1 k ⟨h.2, trivial⟩, laws_eqSolid.ok1 k ⟨laws_eqPlane.ok k, h.1, trivial⟩⟩
theorem laws_eqSolidS.ok (k : Nat) : Fun Try.prog 64 (laws_eqSolidS.e k).G := (laws_eqSolidS.okk k).1
theorem laws_eqSolid.ok (k : Nat) : Fun Try.prog 18 (laws_eqSolid.e k).G := (laws_eqSolidS.okk k).2

noncomputable def laws_szSolidS.H5 : Hd := ⟨[], [0, 1, 5], []⟩
@[reducible] def laws_szSolidS.A5 : Type := (((List Tree) × Int × Int × Unit) × (Unit))
noncomputable def laws_szSolidS.Z5 : SC laws_szSolidS.A5 := sC laws_szSolidS.H5 (eCons 0 (tP (aSl .tree)) (eCons 1 (tP (aI .i64)) (eCons 5 (tP (aI .i64)) eNil))) bNil
@[reducible] def laws_szSolidS.B5 : Type := ((Int × Unit) × (Unit)) ⊕ ((Int × Unit) × (Unit))
noncomputable def laws_szSolidS.X5 : XC laws_szSolidS.B5 := xOr (xRet (sC ⟨[], [4], []⟩ (eCons 4 (tP (aI .i64)) eNil) bNil)) (xExit 0 (sC ⟨[], [1], []⟩ (eCons 1 (tP (aI .i64)) eNil) bNil))
noncomputable def laws_szSolidS.s5 (k : Nat) (self21 : Tree → Int → Option Int) (self67 : (List Tree) → Int → Option Int) (J : (List Tree) → Int → Int → Option laws_szSolidS.B5) (x0 : List Tree) (x1 : Int) (x5 : Int) : Option laws_szSolidS.B5 :=
  if (decide (x5 < (x0.length : Int))) = true then (if 0 ≤ x5 then (if x5 < (x0.length : Int) then ((self21  (T1 (rd x0 x5)) x1).bind fun t1 => if (decide (t1 < 0)) = true then (some (.inl (((-1), ()), (())))) else (J x0 t1 (W (x5 + 1)))) else none) else none) else (some (.inr ((x1, ()), (()))))
noncomputable def laws_szSolidS.l5 (k : Nat) (self21 : Tree → Int → Option Int) (self67 : (List Tree) → Int → Option Int) : Nat → (List Tree) → Int → Int → Option laws_szSolidS.B5
  | 0, _, _, _ => none
  | n + 1, x0, x1, x5 => laws_szSolidS.s5 k self21 self67 (laws_szSolidS.l5 k self21 self67 n) x0 x1 x5
noncomputable def laws_szSolidS.fs (k : Nat) (self21 : Tree → Int → Option Int) (self67 : (List Tree) → Int → Option Int) (a0 : List Tree) (a1 : Int) : Option Int :=
  if (decide ((W (a1 - (a0.length : Int))) < 0)) = true then (some (-1)) else ((laws_szSolidS.l5 k self21 self67 k a0 (W (a1 - (a0.length : Int))) 0).bind fun | .inl r2 => (some r2.1.1) | .inr x3 => (some x3.1.1))
noncomputable def laws_szSolid.fs (k : Nat) (self21 : Tree → Int → Option Int) (self67 : (List Tree) → Int → Option Int) (a0 : Tree) (a1 : Int) : Option Int :=
  (self67  a0.kids a1).bind fun t1 => if (decide (t1 < 0)) = true then (some (-1)) else (some t1)
mutual
noncomputable def laws_szSolidS.f : Nat → (List Tree) → Int → Option Int
  | 0, _, _ => none
  | k + 1, a0, a1 => laws_szSolidS.fs k (laws_szSolid.f k) (laws_szSolidS.f k) a0 a1
noncomputable def laws_szSolid.f : Nat → Tree → Int → Option Int
  | 0, _, _ => none
  | k + 1, a0, a1 => laws_szSolid.fs k (laws_szSolid.f k) (laws_szSolidS.f k) a0 a1
end
theorem laws_szSolidS.fS (k : Nat) (a0 : List Tree) (a1 : Int) : laws_szSolidS.f (k + 1) a0 a1 = laws_szSolidS.fs k (laws_szSolid.f k) (laws_szSolidS.f k) a0 a1 := by first | rfl | rw [laws_szSolidS.f]
theorem laws_szSolid.fS (k : Nat) (a0 : Tree) (a1 : Int) : laws_szSolid.f (k + 1) a0 a1 = laws_szSolid.fs k (laws_szSolid.f k) (laws_szSolidS.f k) a0 a1 := by first | rfl | rw [laws_szSolid.f]
noncomputable def laws_szSolidS.e (k : Nat) : FE := { α := (List Tree) × Int × Unit, β := Int, args := (lCons (aSl .tree) (lCons (aI .i64) lNil)), ret := (rOne (aI .i64)), f := fun p => laws_szSolidS.f k p.1 p.2.1 }
noncomputable def laws_szSolid.e (k : Nat) : FE := { α := Tree × Int × Unit, β := Int, args := (lCons aTree (lCons (aI .i64) lNil)), ret := (rOne (aI .i64)), f := fun p => laws_szSolid.f k p.1 p.2.1 }
noncomputable def laws_szSolidS.c (k : Nat) : List (Nat × CE) := [(21, .fn (laws_szSolid.e k))]
noncomputable def laws_szSolidS.bd : Code := match Try.f67.body with | some c => c | none => .skip
noncomputable def laws_szSolidS.e5 (k : Nat) : LE := { H := laws_szSolidS.H5, α := laws_szSolidS.A5, β := laws_szSolidS.B5, st := laws_szSolidS.Z5, xt := laws_szSolidS.X5, f := fun p => laws_szSolidS.l5 k (laws_szSolid.f k) (laws_szSolidS.f k) k p.1.1 p.1.2.1 p.1.2.2.1 }
noncomputable def laws_szSolidS.g (k : Nat) : List (Nat × LE) := [(5, laws_szSolidS.e5 k)]
theorem laws_szSolidS.t5 (k : Nat) (I : S2 → Option laws_szSolidS.B5) (x0 : List Tree) (x1 : Int) (x5 : Int) : stepOf (mkCx Try.prog (laws_szSolidS.c k) (laws_szSolidS.g k) : Cx laws_szSolidS.B5) (loopAt laws_szSolidS.bd 0) laws_szSolidS.H5 laws_szSolidS.X5.dec I (laws_szSolidS.Z5.enc ((x0, x1, x5, ()), (()))) = laws_szSolidS.s5 k (laws_szSolid.f k) (laws_szSolidS.f k) (fun x0 x1 x5 => I (laws_szSolidS.Z5.enc ((x0, x1, x5, ()), (())))) x0 x1 x5 := by kernel_rfl
theorem laws_szSolidS.i5 (k : Nat) : ∀ (n : Nat) (x0 : List Tree) (x1 : Int) (x5 : Int), iter (evCode (mkCx Try.prog (laws_szSolidS.c k) (laws_szSolidS.g k) : Cx laws_szSolidS.B5) (loopAt laws_szSolidS.bd 0)) laws_szSolidS.H5 laws_szSolidS.X5.dec n (laws_szSolidS.Z5.enc ((x0, x1, x5, ()), (()))) = laws_szSolidS.l5 k (laws_szSolid.f k) (laws_szSolidS.f k) n x0 x1 x5
  | 0, _, _, _ => rfl
  | n + 1, x0, x1, x5 => ((iter_step _ _ _ _ n _).trans (laws_szSolidS.t5 k _ x0 x1 x5)).trans (congrArg (fun J => laws_szSolidS.s5 k (laws_szSolid.f k) (laws_szSolidS.f k) J x0 x1 x5) (funext fun x0 => funext fun x1 => funext fun x5 => laws_szSolidS.i5 k n x0 x1 x5))
theorem laws_szSolidS.to5 (k : Nat) (hC : AllFun Try.prog (laws_szSolidS.c k)) : LoopTo Try.prog 27 (laws_szSolidS.e5 k) (loopAt laws_szSolidS.bd 0) := loop_to mixed hC (by kernel_rfl) (loops_all 0 (by kernel_rfl) fun i hi => absurd hi (Nat.not_lt_zero i)) fun a b h => ⟨k, (laws_szSolidS.i5 k k a.1.1 a.1.2.1 a.1.2.2.1).trans h⟩
theorem laws_szSolidS.link (k : Nat) (a0 : List Tree) (a1 : Int) : evFun (mkCx Try.prog (laws_szSolidS.c k) (laws_szSolidS.g k) : Cx Int) Try.f67 ((laws_szSolidS.e (k + 1)).args.enc (a0, a1, ())) (laws_szSolidS.e (k + 1)).ret.dec = laws_szSolidS.fs k (laws_szSolid.f k) (laws_szSolidS.f k) a0 a1 := by kernel_rfl
theorem laws_szSolidS.ok1 (k : Nat) (hC : AllFun Try.prog (laws_szSolidS.c k)) : Fun Try.prog 67 (laws_szSolidS.e (k + 1)).G := fun_ok mixed (body := laws_szSolidS.bd) Try.func67 (by kernel_rfl) (by kernel_rfl) (by kernel_rfl) hC (loops_all 1 (by kernel_rfl) fun i hi => by obtain rfl : i = 0 := Nat.lt_one_iff.1 hi; exact ⟨laws_szSolidS.e5 k, by kernel_rfl, laws_szSolidS.to5 k hC⟩) (laws_szSolidS.e (k + 1)) (fun a => Nat.le_of_ble_eq_true (by kernel_rfl)) fun a b h => (laws_szSolidS.link k a.1 a.2.1).trans ((laws_szSolidS.fS k a.1 a.2.1).symm.trans h)
noncomputable def laws_szSolid.c (k : Nat) : List (Nat × CE) := [(67, .fn (laws_szSolidS.e k))]
noncomputable def laws_szSolid.bd : Code := match Try.f21.body with | some c => c | none => .skip
noncomputable def laws_szSolid.g (k : Nat) : List (Nat × LE) := []
theorem laws_szSolid.link (k : Nat) (a0 : Tree) (a1 : Int) : evFun (mkCx Try.prog (laws_szSolid.c k) (laws_szSolid.g k) : Cx Int) Try.f21 ((laws_szSolid.e (k + 1)).args.enc (a0, a1, ())) (laws_szSolid.e (k + 1)).ret.dec = laws_szSolid.fs k (laws_szSolid.f k) (laws_szSolidS.f k) a0 a1 := by kernel_rfl
theorem laws_szSolid.ok1 (k : Nat) (hC : AllFun Try.prog (laws_szSolid.c k)) : Fun Try.prog 21 (laws_szSolid.e (k + 1)).G := fun_ok mixed (body := laws_szSolid.bd) Try.func21 (by kernel_rfl) (by kernel_rfl) (by kernel_rfl) hC (loops_all 0 (by kernel_rfl) fun i hi => absurd hi (Nat.not_lt_zero i)) (laws_szSolid.e (k + 1)) (fun a => Nat.le_of_ble_eq_true (by kernel_rfl)) fun a b h => (laws_szSolid.link k a.1 a.2.1).trans ((laws_szSolid.fS k a.1 a.2.1).symm.trans h)
theorem laws_szSolidS.okk : ∀ k, Fun Try.prog 67 (laws_szSolidS.e k).G ∧ Fun Try.prog 21 (laws_szSolid.e k).G
  | 0 => ⟨fun_zero (by kernel_rfl) fun _ => rfl, fun_zero (by kernel_rfl) fun _ => rfl⟩
  | k + 1 => have h := laws_szSolidS.okk k; ⟨laws_szSolidS.ok1 k ⟨h.2, trivial⟩, laws_szSolid.ok1 k ⟨h.1, trivial⟩⟩
theorem laws_szSolidS.ok (k : Nat) : Fun Try.prog 67 (laws_szSolidS.e k).G := (laws_szSolidS.okk k).1
theorem laws_szSolid.ok (k : Nat) : Fun Try.prog 21 (laws_szSolid.e k).G := (laws_szSolidS.okk k).2

noncomputable def spec_SameTree.H4 : Hd := ⟨[], [2, 3, 5], [2, 3]⟩
@[reducible] def spec_SameTree.A4 : Type := ((Unit × Unit × Int × Unit) × (Tree × Tree × Unit))
noncomputable def spec_SameTree.Z4 : SC spec_SameTree.A4 := sC spec_SameTree.H4 (eCons 2 (tRef 2 0) (eCons 3 (tRef 3 0) (eCons 5 (tP (aI .i64)) eNil))) (bCons 2 (xVr cTree) (bCons 3 (xVr cTree) bNil))
@[reducible] def spec_SameTree.B4 : Type := ((Bool × Unit) × (Unit)) ⊕ ((Unit) × (Unit))
noncomputable def spec_SameTree.X4 : XC spec_SameTree.B4 := xOr (xRet (sC ⟨[], [4], []⟩ (eCons 4 (tP aB) eNil) bNil)) (xExit 0 (sC ⟨[], [], []⟩ eNil bNil))
noncomputable def spec_SameTree.s4 (k : Nat) (self22 : Tree → Tree → Option Bool) (J : Int → Tree → Tree → Option spec_SameTree.B4) (x5 : Int) (b2 : Tree) (b3 : Tree) : Option spec_SameTree.B4 :=
  if (decide (x5 < (b2.kids.length : Int))) = true then (if 0 ≤ x5 then (if x5 < (b2.kids.length : Int) then (if 0 ≤ x5 then (if x5 < (b3.kids.length : Int) then ((self22  (T1 (rd b2.kids x5)) (T1 (rd b3.kids x5))).bind fun t1 => if (!t1) = true then (some (.inl ((false, ()), (())))) else (J (W (x5 + 1)) (T1 b2) (T1 b3))) else none) else none) else none) else none) else (some (.inr ((()), (()))))
noncomputable def spec_SameTree.l4 (k : Nat) (self22 : Tree → Tree → Option Bool) : Nat → Int → Tree → Tree → Option spec_SameTree.B4
  | 0, _, _, _ => none
  | n + 1, x5, b2, b3 => spec_SameTree.s4 k self22 (spec_SameTree.l4 k self22 n) x5 b2 b3
noncomputable def spec_SameTree.fs (k : Nat) (self22 : Tree → Tree → Option Bool) (a0 : Tree) (a1 : Tree) : Option Bool :=
  if (!(a0.inn == a1.inn)) = true then (some false) else (if (!((a0.p.a == a1.p.a) && ((a0.p.b == a1.p.b) && ((a0.p.c == a1.p.c) && (a0.p.d == a1.p.d))))) = true then (some false) else (if ((a0.kids.length : Int) != (a1.kids.length : Int)) = true then (some false) else ((spec_SameTree.l4 k self22 k 0 (T1 a0) (T1 a1)).bind fun | .inl r2 => (some r2.1.1) | .inr x3 => (some true))))
noncomputable def spec_SameTree.f : Nat → Tree → Tree → Option Bool
  | 0, _, _ => none
  | k + 1, a0, a1 => spec_SameTree.fs k (spec_SameTree.f k) a0 a1
theorem spec_SameTree.fS (k : Nat) (a0 : Tree) (a1 : Tree) : spec_SameTree.f (k + 1) a0 a1 = spec_SameTree.fs k (spec_SameTree.f k) a0 a1 := by first | rfl | rw [spec_SameTree.f]
noncomputable def spec_SameTree.e (k : Nat) : FE := { α := Tree × Tree × Unit, β := Bool, args := (lCons aTree (lCons aTree lNil)), ret := (rOne aB), f := fun p => spec_SameTree.f k p.1 p.2.1 }
noncomputable def spec_SameTree.c (k : Nat) : List (Nat × CE) := [(22, .fn (spec_SameTree.e k))]
noncomputable def spec_SameTree.bd : Code := match Try.f22.body with | some c => c | none => .skip
noncomputable def spec_SameTree.e4 (k : Nat) : LE := { H := spec_SameTree.H4, α := spec_SameTree.A4, β := spec_SameTree.B4, st := spec_SameTree.Z4, xt := spec_SameTree.X4, f := fun p => spec_SameTree.l4 k (spec_SameTree.f k) k p.1.2.2.1 p.2.1 p.2.2.1 }
noncomputable def spec_SameTree.g (k : Nat) : List (Nat × LE) := [(4, spec_SameTree.e4 k)]
theorem spec_SameTree.t4 (k : Nat) (I : S2 → Option spec_SameTree.B4) (x5 : Int) (b2 : Tree) (b3 : Tree) : stepOf (mkCx Try.prog (spec_SameTree.c k) (spec_SameTree.g k) : Cx spec_SameTree.B4) (loopAt spec_SameTree.bd 0) spec_SameTree.H4 spec_SameTree.X4.dec I (spec_SameTree.Z4.enc (((), (), x5, ()), (b2, b3, ()))) = spec_SameTree.s4 k (spec_SameTree.f k) (fun x5 b2 b3 => I (spec_SameTree.Z4.enc (((), (), x5, ()), (b2, b3, ())))) x5 b2 b3 := by kernel_rfl
theorem spec_SameTree.i4 (k : Nat) : ∀ (n : Nat) (x5 : Int) (b2 : Tree) (b3 : Tree), iter (evCode (mkCx Try.prog (spec_SameTree.c k) (spec_SameTree.g k) : Cx spec_SameTree.B4) (loopAt spec_SameTree.bd 0)) spec_SameTree.H4 spec_SameTree.X4.dec n (spec_SameTree.Z4.enc (((), (), x5, ()), (b2, b3, ()))) = spec_SameTree.l4 k (spec_SameTree.f k) n x5 b2 b3
  | 0, _, _, _ => rfl
  | n + 1, x5, b2, b3 => ((iter_step _ _ _ _ n _).trans (spec_SameTree.t4 k _ x5 b2 b3)).trans (congrArg (fun J => spec_SameTree.s4 k (spec_SameTree.f k) J x5 b2 b3) (funext fun x5 => funext fun b2 => funext fun b3 => spec_SameTree.i4 k n x5 b2 b3))
theorem spec_SameTree.to4 (k : Nat) (hC : AllFun Try.prog (spec_SameTree.c k)) : LoopTo Try.prog 46 (spec_SameTree.e4 k) (loopAt spec_SameTree.bd 0) := loop_to mixed hC (by kernel_rfl) (loops_all 0 (by kernel_rfl) fun i hi => absurd hi (Nat.not_lt_zero i)) fun a b h => ⟨k, (spec_SameTree.i4 k k a.1.2.2.1 a.2.1 a.2.2.1).trans h⟩
theorem spec_SameTree.link (k : Nat) (a0 : Tree) (a1 : Tree) : evFun (mkCx Try.prog (spec_SameTree.c k) (spec_SameTree.g k) : Cx Bool) Try.f22 ((spec_SameTree.e (k + 1)).args.enc (a0, a1, ())) (spec_SameTree.e (k + 1)).ret.dec = spec_SameTree.fs k (spec_SameTree.f k) a0 a1 := by kernel_rfl
theorem spec_SameTree.ok1 (k : Nat) (hC : AllFun Try.prog (spec_SameTree.c k)) : Fun Try.prog 22 (spec_SameTree.e (k + 1)).G := fun_ok mixed (body := spec_SameTree.bd) Try.func22 (by kernel_rfl) (by kernel_rfl) (by kernel_rfl) hC (loops_all 1 (by kernel_rfl) fun i hi => by obtain rfl : i = 0 := Nat.lt_one_iff.1 hi; exact ⟨spec_SameTree.e4 k, by kernel_rfl, spec_SameTree.to4 k hC⟩) (spec_SameTree.e (k + 1)) (fun a => Nat.le_of_ble_eq_true (by kernel_rfl)) fun a b h => (spec_SameTree.link k a.1 a.2.1).trans ((spec_SameTree.fS k a.1 a.2.1).symm.trans h)
theorem spec_SameTree.ok : ∀ k, Fun Try.prog 22 (spec_SameTree.e k).G
  | 0 => fun_zero (by kernel_rfl) fun _ => rfl
  | k + 1 => spec_SameTree.ok1 k ⟨spec_SameTree.ok k, trivial⟩

noncomputable def laws_toPlane.f (k : Nat) (a0 : S4) : Option S4 :=
  some a0
noncomputable def laws_toPlane.e (k : Nat) : FE := { α := S4 × Unit, β := S4, args := (lCons aS4 lNil), ret := (rOne aS4), f := fun p => laws_toPlane.f k p.1 }
noncomputable def laws_toPlane.c (k : Nat) : List (Nat × CE) := []
noncomputable def laws_toPlane.bd : Code := match Try.f16.body with | some c => c | none => .skip
noncomputable def laws_toPlane.g (k : Nat) : List (Nat × LE) := []
theorem laws_toPlane.link (k : Nat) (a0 : S4) : evFun (mkCx Try.prog (laws_toPlane.c k) (laws_toPlane.g k) : Cx S4) Try.f16 ((laws_toPlane.e k).args.enc (a0, ())) (laws_toPlane.e k).ret.dec = laws_toPlane.f k a0 := by kernel_rfl
theorem laws_toPlane.ok1 (k : Nat) (hC : AllFun Try.prog (laws_toPlane.c k)) : Fun Try.prog 16 (laws_toPlane.e k).G := fun_ok mixed (body := laws_toPlane.bd) Try.func16 (by kernel_rfl) (by kernel_rfl) (by kernel_rfl) hC (loops_all 0 (by kernel_rfl) fun i hi => absurd hi (Nat.not_lt_zero i)) (laws_toPlane.e k) (fun a => Nat.le_of_ble_eq_true (by kernel_rfl)) fun a b h => (laws_toPlane.link k a.1).trans h
theorem laws_toPlane.ok (k : Nat) : Fun Try.prog 16 (laws_toPlane.e k).G := laws_toPlane.ok1 k trivial

noncomputable def laws_toSolidS.H3 : Hd := ⟨[], [0, 3, 4], []⟩
@[reducible] def laws_toSolidS.A3 : Type := (((List Tree) × Unit × Int × Unit) × ((List Tree) × Unit))
noncomputable def laws_toSolidS.Z3 : SC laws_toSolidS.A3 := sC laws_toSolidS.H3 (eCons 0 (tP (aSl .tree)) (eCons 3 (tOsl 1000003) (eCons 4 (tP (aI .i64)) eNil))) (bCons 1000003 (xRow 27 .tree) bNil)
@[reducible] def laws_toSolidS.B3 : Type := ((Unit × Unit) × ((List Tree) × Unit))
noncomputable def laws_toSolidS.X3 : XC laws_toSolidS.B3 := xExit 0 (sC ⟨[], [3], []⟩ (eCons 3 (tOsl 1000003) eNil) (bCons 1000003 (xRow 27 .tree) bNil))
noncomputable def laws_toSolidS.s3 (k : Nat) (self23 : Tree → Option Tree) (self68 : (List Tree) → Option (List Tree)) (J : (List Tree) → Int → (List Tree) → Option laws_toSolidS.B3) (x0 : List Tree) (x4 : Int) (b1000003 : List Tree) : Option laws_toSolidS.B3 :=
  if (decide (x4 < (x0.length : Int))) = true then (if 0 ≤ x4 then (if x4 < (x0.length : Int) then ((self23  (T1 (rd x0 x4))).bind fun t1 => if 0 ≤ x4 then (if x4 < (b1000003.length : Int) then (if x4.toNat < b1000003.length then (J x0 (W (x4 + 1)) (b1000003.set x4.toNat (T1 t1))) else none) else none) else none) else none) else none) else (some (((), ()), (b1000003, ())))
noncomputable def laws_toSolidS.l3 (k : Nat) (self23 : Tree → Option Tree) (self68 : (List Tree) → Option (List Tree)) : Nat → (List Tree) → Int → (List Tree) → Option laws_toSolidS.B3
  | 0, _, _, _ => none
  | n + 1, x0, x4, b1000003 => laws_toSolidS.s3 k self23 self68 (laws_toSolidS.l3 k self23 self68 n) x0 x4 b1000003
noncomputable def laws_toSolidS.fs (k : Nat) (self23 : Tree → Option Tree) (self68 : (List Tree) → Option (List Tree)) (a0 : List Tree) : Option (List Tree) :=
  if 0 ≤ (a0.length : Int) then (if lt47 ((a0.length : Int)).toNat = true then ((laws_toSolidS.l3 k self23 self68 k a0 0 (List.replicate (a0.length : Int).toNat default : List Tree)).bind fun x2 => some x2.2.1) else none) else none
noncomputable def laws_toSolid.fs (k : Nat) (self23 : Tree → Option Tree) (self68 : (List Tree) → Option (List Tree)) (a0 : Tree) : Option Tree :=
  (laws_toPlane.f k  a0.p).bind fun t1 => (self68  a0.kids).bind fun t2 => some (Tree.mk a0.inn t1 t2)
mutual
noncomputable def laws_toSolidS.f : Nat → (List Tree) → Option (List Tree)
  | 0, _ => none
  | k + 1, a0 => laws_toSolidS.fs k (laws_toSolid.f k) (laws_toSolidS.f k) a0
noncomputable def laws_toSolid.f : Nat → Tree → Option Tree
  | 0, _ => none
  | k + 1, a0 => laws_toSolid.fs k (laws_toSolid.f k) (laws_toSolidS.f k) a0
end
theorem laws_toSolidS.fS (k : Nat) (a0 : List Tree) : laws_toSolidS.f (k + 1) a0 = laws_toSolidS.fs k (laws_toSolid.f k) (laws_toSolidS.f k) a0 := by first | rfl | rw [laws_toSolidS.f]
theorem laws_toSolid.fS (k : Nat) (a0 : Tree) : laws_toSolid.f (k + 1) a0 = laws_toSolid.fs k (laws_toSolid.f k) (laws_toSolidS.f k) a0 := by first | rfl | rw [laws_toSolid.f]
noncomputable def laws_toSolidS.e (k : Nat) : FE := { α := (List Tree) × Unit, β := List Tree, args := (lCons (aSl .tree) lNil), ret := (rOwn 27 .tree), f := fun p => laws_toSolidS.f k p.1 }
noncomputable def laws_toSolid.e (k : Nat) : FE := { α := Tree × Unit, β := Tree, args := (lCons aTree lNil), ret := (rOne aTree), f := fun p => laws_toSolid.f k p.1 }
noncomputable def laws_toSolidS.c (k : Nat) : List (Nat × CE) := [(23, .fn (laws_toSolid.e k))]
noncomputable def laws_toSolidS.bd : Code := match Try.f68.body with | some c => c | none => .skip
noncomputable def laws_toSolidS.e3 (k : Nat) : LE := { H := laws_toSolidS.H3, α := laws_toSolidS.A3, β := laws_toSolidS.B3, st := laws_toSolidS.Z3, xt := laws_toSolidS.X3, f := fun p => laws_toSolidS.l3 k (laws_toSolid.f k) (laws_toSolidS.f k) k p.1.1 p.1.2.2.1 p.2.1 }
noncomputable def laws_toSolidS.g (k : Nat) : List (Nat × LE) := [(3, laws_toSolidS.e3 k)]
theorem laws_toSolidS.t3 (k : Nat) (I : S2 → Option laws_toSolidS.B3) (x0 : List Tree) (x4 : Int) (b1000003 : List Tree) : stepOf (mkCx Try.prog (laws_toSolidS.c k) (laws_toSolidS.g k) : Cx laws_toSolidS.B3) (loopAt laws_toSolidS.bd 0) laws_toSolidS.H3 laws_toSolidS.X3.dec I (laws_toSolidS.Z3.enc ((x0, (), x4, ()), (b1000003, ()))) = laws_toSolidS.s3 k (laws_toSolid.f k) (laws_toSolidS.f k) (fun x0 x4 b1000003 => I (laws_toSolidS.Z3.enc ((x0, (), x4, ()), (b1000003, ())))) x0 x4 b1000003 := by kernel_rfl
theorem laws_toSolidS.i3 (k : Nat) : ∀ (n : Nat) (x0 : List Tree) (x4 : Int) (b1000003 : List Tree), iter (evCode (mkCx Try.prog (laws_toSolidS.c k) (laws_toSolidS.g k) : Cx laws_toSolidS.B3) (loopAt laws_toSolidS.bd 0)) laws_toSolidS.H3 laws_toSolidS.X3.dec n (laws_toSolidS.Z3.enc ((x0, (), x4, ()), (b1000003, ()))) = laws_toSolidS.l3 k (laws_toSolid.f k) (laws_toSolidS.f k) n x0 x4 b1000003
  | 0, _, _, _ => rfl
  | n + 1, x0, x4, b1000003 => ((iter_step _ _ _ _ n _).trans (laws_toSolidS.t3 k _ x0 x4 b1000003)).trans (congrArg (fun J => laws_toSolidS.s3 k (laws_toSolid.f k) (laws_toSolidS.f k) J x0 x4 b1000003) (funext fun x0 => funext fun x4 => funext fun b1000003 => laws_toSolidS.i3 k n x0 x4 b1000003))
theorem laws_toSolidS.to3 (k : Nat) (hC : AllFun Try.prog (laws_toSolidS.c k)) : LoopTo Try.prog 23 (laws_toSolidS.e3 k) (loopAt laws_toSolidS.bd 0) := loop_to mixed hC (by kernel_rfl) (loops_all 0 (by kernel_rfl) fun i hi => absurd hi (Nat.not_lt_zero i)) fun a b h => ⟨k, (laws_toSolidS.i3 k k a.1.1 a.1.2.2.1 a.2.1).trans h⟩
theorem laws_toSolidS.link (k : Nat) (a0 : List Tree) : evFun (mkCx Try.prog (laws_toSolidS.c k) (laws_toSolidS.g k) : Cx (List Tree)) Try.f68 ((laws_toSolidS.e (k + 1)).args.enc (a0, ())) (laws_toSolidS.e (k + 1)).ret.dec = laws_toSolidS.fs k (laws_toSolid.f k) (laws_toSolidS.f k) a0 := by kernel_rfl
theorem laws_toSolidS.ok1 (k : Nat) (hC : AllFun Try.prog (laws_toSolidS.c k)) : Fun Try.prog 68 (laws_toSolidS.e (k + 1)).G := fun_ok mixed (body := laws_toSolidS.bd) Try.func68 (by kernel_rfl) (by kernel_rfl) (by kernel_rfl) hC (loops_all 1 (by kernel_rfl) fun i hi => by obtain rfl : i = 0 := Nat.lt_one_iff.1 hi; exact ⟨laws_toSolidS.e3 k, by kernel_rfl, laws_toSolidS.to3 k hC⟩) (laws_toSolidS.e (k + 1)) (fun a => Nat.le_of_ble_eq_true (by kernel_rfl)) fun a b h => (laws_toSolidS.link k a.1).trans ((laws_toSolidS.fS k a.1).symm.trans h)
noncomputable def laws_toSolid.c (k : Nat) : List (Nat × CE) := [(16, .fn (laws_toPlane.e k)), (68, .fn (laws_toSolidS.e k))]
noncomputable def laws_toSolid.bd : Code := match Try.f23.body with | some c => c | none => .skip
noncomputable def laws_toSolid.g (k : Nat) : List (Nat × LE) := []
theorem laws_toSolid.link (k : Nat) (a0 : Tree) : evFun (mkCx Try.prog (laws_toSolid.c k) (laws_toSolid.g k) : Cx Tree) Try.f23 ((laws_toSolid.e (k + 1)).args.enc (a0, ())) (laws_toSolid.e (k + 1)).ret.dec = laws_toSolid.fs k (laws_toSolid.f k) (laws_toSolidS.f k) a0 := by kernel_rfl
theorem laws_toSolid.ok1 (k : Nat) (hC : AllFun Try.prog (laws_toSolid.c k)) : Fun Try.prog 23 (laws_toSolid.e (k + 1)).G := fun_ok mixed (body := laws_toSolid.bd) Try.func23 (by kernel_rfl) (by kernel_rfl) (by kernel_rfl) hC (loops_all 0 (by kernel_rfl) fun i hi => absurd hi (Nat.not_lt_zero i)) (laws_toSolid.e (k + 1)) (fun a => Nat.le_of_ble_eq_true (by kernel_rfl)) fun a b h => (laws_toSolid.link k a.1).trans ((laws_toSolid.fS k a.1).symm.trans h)
theorem laws_toSolidS.okk : ∀ k, Fun Try.prog 68 (laws_toSolidS.e k).G ∧ Fun Try.prog 23 (laws_toSolid.e k).G
  | 0 => ⟨fun_zero (by kernel_rfl) fun _ => rfl, fun_zero (by kernel_rfl) fun _ => rfl⟩
  | k + 1 => have h := laws_toSolidS.okk k; ⟨laws_toSolidS.ok1 k ⟨h.2, trivial⟩, laws_toSolid.ok1 k ⟨laws_toPlane.ok k, h.1, trivial⟩⟩
theorem laws_toSolidS.ok (k : Nat) : Fun Try.prog 68 (laws_toSolidS.e k).G := (laws_toSolidS.okk k).1
theorem laws_toSolid.ok (k : Nat) : Fun Try.prog 23 (laws_toSolid.e k).G := (laws_toSolidS.okk k).2

noncomputable def slices_EqualFunc.H4 : Hd := ⟨[], [1, 2, 15, 16, 17], []⟩
@[reducible] def slices_EqualFunc.A4 : Type := (((List Tree) × Unit × (List Tree) × Int × Int × Unit) × (Unit))
noncomputable def slices_EqualFunc.Z4 : SC slices_EqualFunc.A4 := sC slices_EqualFunc.H4 (eCons 1 (tP (aSl .tree)) (eCons 2 (tP (aFn 24)) (eCons 15 (tP (aSl .tree)) (eCons 16 (tP (aI .i64)) (eCons 17 (tP (aI .i64)) eNil))))) bNil
@[reducible] def slices_EqualFunc.B4 : Type := ((Bool × Unit) × (Unit)) ⊕ ((Unit) × (Unit))
noncomputable def slices_EqualFunc.X4 : XC slices_EqualFunc.B4 := xOr (xRet (sC ⟨[], [6], []⟩ (eCons 6 (tP aB) eNil) bNil)) (xExit 0 (sC ⟨[], [], []⟩ eNil bNil))
noncomputable def slices_EqualFunc.s4 (k : Nat) (self24 : Tree → Tree → Option Bool) (self69 : (List Tree) → (List Tree) → Unit → Option Bool) (J : (List Tree) → Unit → (List Tree) → Int → Int → Option slices_EqualFunc.B4) (x1 : List Tree) (x2 : Unit) (x15 : List Tree) (x16 : Int) (x17 : Int) : Option slices_EqualFunc.B4 :=
  if (decide (x17 < x16)) = true then (if 0 ≤ x17 then (if x17 < (x15.length : Int) then (if 0 ≤ x17 then (if x17 < (x1.length : Int) then ((self24  (T1 (rd x15 x17)) (T1 (rd x1 x17))).bind fun t1 => if (!t1) = true then (some (.inl ((false, ()), (())))) else (J x1 () x15 x16 (W (x17 + 1)))) else none) else none) else none) else none) else (some (.inr ((()), (()))))
noncomputable def slices_EqualFunc.l4 (k : Nat) (self24 : Tree → Tree → Option Bool) (self69 : (List Tree) → (List Tree) → Unit → Option Bool) : Nat → (List Tree) → Unit → (List Tree) → Int → Int → Option slices_EqualFunc.B4
  | 0, _, _, _, _, _ => none
  | n + 1, x1, x2, x15, x16, x17 => slices_EqualFunc.s4 k self24 self69 (slices_EqualFunc.l4 k self24 self69 n) x1 x2 x15 x16 x17
noncomputable def slices_EqualFunc.fs (k : Nat) (self24 : Tree → Tree → Option Bool) (self69 : (List Tree) → (List Tree) → Unit → Option Bool) (a0 : List Tree) (a1 : List Tree) (a2 : Unit) : Option Bool :=
  if ((a0.length : Int) != (a1.length : Int)) = true then (some false) else ((slices_EqualFunc.l4 k self24 self69 k a1 () a0 (a0.length : Int) 0).bind fun | .inl r2 => (some r2.1.1) | .inr x3 => (some true))
noncomputable def impl_SameTree.fs (k : Nat) (self24 : Tree → Tree → Option Bool) (self69 : (List Tree) → (List Tree) → Unit → Option Bool) (a0 : Tree) (a1 : Tree) : Option Bool :=
  if (a0.inn == a1.inn) = true then (if ((a0.p.a == a1.p.a) && ((a0.p.b == a1.p.b) && ((a0.p.c == a1.p.c) && (a0.p.d == a1.p.d)))) = true then ((self69  a0.kids a1.kids ()).bind fun t1 => some t1) else (some false)) else (some false)
mutual
noncomputable def slices_EqualFunc.f : Nat → (List Tree) → (List Tree) → Unit → Option Bool
  | 0, _, _, _ => none
  | k + 1, a0, a1, a2 => slices_EqualFunc.fs k (impl_SameTree.f k) (slices_EqualFunc.f k) a0 a1 a2
noncomputable def impl_SameTree.f : Nat → Tree → Tree → Option Bool
  | 0, _, _ => none
  | k + 1, a0, a1 => impl_SameTree.fs k (impl_SameTree.f k) (slices_EqualFunc.f k) a0 a1
end
theorem slices_EqualFunc.fS (k : Nat) (a0 : List Tree) (a1 : List Tree) (a2 : Unit) : slices_EqualFunc.f (k + 1) a0 a1 a2 = slices_EqualFunc.fs k (impl_SameTree.f k) (slices_EqualFunc.f k) a0 a1 a2 := by first | rfl | rw [slices_EqualFunc.f]
theorem impl_SameTree.fS (k : Nat) (a0 : Tree) (a1 : Tree) : impl_SameTree.f (k + 1) a0 a1 = impl_SameTree.fs k (impl_SameTree.f k) (slices_EqualFunc.f k) a0 a1 := by first | rfl | rw [impl_SameTree.f]
noncomputable def slices_EqualFunc.e (k : Nat) : FE := { α := (List Tree) × (List Tree) × Unit × Unit, β := Bool, args := (lCons (aSl .tree) (lCons (aSl .tree) (lCons (aFn 24) lNil))), ret := (rOne aB), f := fun p => slices_EqualFunc.f k p.1 p.2.1 p.2.2.1 }
noncomputable def impl_SameTree.e (k : Nat) : FE := { α := Tree × Tree × Unit, β := Bool, args := (lCons aTree (lCons aTree lNil)), ret := (rOne aB), f := fun p => impl_SameTree.f k p.1 p.2.1 }
noncomputable def slices_EqualFunc.c (k : Nat) : List (Nat × CE) := [(24, .fn (impl_SameTree.e k))]
noncomputable def slices_EqualFunc.bd : Code := match Try.f69.body with | some c => c | none => .skip
noncomputable def slices_EqualFunc.e4 (k : Nat) : LE := { H := slices_EqualFunc.H4, α := slices_EqualFunc.A4, β := slices_EqualFunc.B4, st := slices_EqualFunc.Z4, xt := slices_EqualFunc.X4, f := fun p => slices_EqualFunc.l4 k (impl_SameTree.f k) (slices_EqualFunc.f k) k p.1.1 p.1.2.1 p.1.2.2.1 p.1.2.2.2.1 p.1.2.2.2.2.1 }
noncomputable def slices_EqualFunc.g (k : Nat) : List (Nat × LE) := [(4, slices_EqualFunc.e4 k)]
theorem slices_EqualFunc.t4 (k : Nat) (I : S2 → Option slices_EqualFunc.B4) (x1 : List Tree) (x2 : Unit) (x15 : List Tree) (x16 : Int) (x17 : Int) : stepOf (mkCx Try.prog (slices_EqualFunc.c k) (slices_EqualFunc.g k) : Cx slices_EqualFunc.B4) (loopAt slices_EqualFunc.bd 0) slices_EqualFunc.H4 slices_EqualFunc.X4.dec I (slices_EqualFunc.Z4.enc ((x1, x2, x15, x16, x17, ()), (()))) = slices_EqualFunc.s4 k (impl_SameTree.f k) (slices_EqualFunc.f k) (fun x1 x2 x15 x16 x17 => I (slices_EqualFunc.Z4.enc ((x1, x2, x15, x16, x17, ()), (())))) x1 x2 x15 x16 x17 := by kernel_rfl
theorem slices_EqualFunc.i4 (k : Nat) : ∀ (n : Nat) (x1 : List Tree) (x2 : Unit) (x15 : List Tree) (x16 : Int) (x17 : Int), iter (evCode (mkCx Try.prog (slices_EqualFunc.c k) (slices_EqualFunc.g k) : Cx slices_EqualFunc.B4) (loopAt slices_EqualFunc.bd 0)) slices_EqualFunc.H4 slices_EqualFunc.X4.dec n (slices_EqualFunc.Z4.enc ((x1, x2, x15, x16, x17, ()), (()))) = slices_EqualFunc.l4 k (impl_SameTree.f k) (slices_EqualFunc.f k) n x1 x2 x15 x16 x17
  | 0, _, _, _, _, _ => rfl
  | n + 1, x1, x2, x15, x16, x17 => ((iter_step _ _ _ _ n _).trans (slices_EqualFunc.t4 k _ x1 x2 x15 x16 x17)).trans (congrArg (fun J => slices_EqualFunc.s4 k (impl_SameTree.f k) (slices_EqualFunc.f k) J x1 x2 x15 x16 x17) (funext fun x1 => funext fun x2 => funext fun x15 => funext fun x16 => funext fun x17 => slices_EqualFunc.i4 k n x1 x2 x15 x16 x17))
theorem slices_EqualFunc.to4 (k : Nat) (hC : AllFun Try.prog (slices_EqualFunc.c k)) : LoopTo Try.prog 32 (slices_EqualFunc.e4 k) (loopAt slices_EqualFunc.bd 0) := loop_to mixed hC (by kernel_rfl) (loops_all 0 (by kernel_rfl) fun i hi => absurd hi (Nat.not_lt_zero i)) fun a b h => ⟨k, (slices_EqualFunc.i4 k k a.1.1 a.1.2.1 a.1.2.2.1 a.1.2.2.2.1 a.1.2.2.2.2.1).trans h⟩
theorem slices_EqualFunc.link (k : Nat) (a0 : List Tree) (a1 : List Tree) (a2 : Unit) : evFun (mkCx Try.prog (slices_EqualFunc.c k) (slices_EqualFunc.g k) : Cx Bool) Try.f69 ((slices_EqualFunc.e (k + 1)).args.enc (a0, a1, a2, ())) (slices_EqualFunc.e (k + 1)).ret.dec = slices_EqualFunc.fs k (impl_SameTree.f k) (slices_EqualFunc.f k) a0 a1 a2 := by kernel_rfl
theorem slices_EqualFunc.ok1 (k : Nat) (hC : AllFun Try.prog (slices_EqualFunc.c k)) : Fun Try.prog 69 (slices_EqualFunc.e (k + 1)).G := fun_ok mixed (body := slices_EqualFunc.bd) Try.func69 (by kernel_rfl) (by kernel_rfl) (by kernel_rfl) hC (loops_all 1 (by kernel_rfl) fun i hi => by obtain rfl : i = 0 := Nat.lt_one_iff.1 hi; exact ⟨slices_EqualFunc.e4 k, by kernel_rfl, slices_EqualFunc.to4 k hC⟩) (slices_EqualFunc.e (k + 1)) (fun a => Nat.le_of_ble_eq_true (by kernel_rfl)) fun a b h => (slices_EqualFunc.link k a.1 a.2.1 a.2.2.1).trans ((slices_EqualFunc.fS k a.1 a.2.1 a.2.2.1).symm.trans h)
noncomputable def impl_SameTree.c (k : Nat) : List (Nat × CE) := [(69, .fn (slices_EqualFunc.e k))]
noncomputable def impl_SameTree.bd : Code := match Try.f24.body with | some c => c | none => .skip
noncomputable def impl_SameTree.g (k : Nat) : List (Nat × LE) := []
theorem impl_SameTree.link (k : Nat) (a0 : Tree) (a1 : Tree) : evFun (mkCx Try.prog (impl_SameTree.c k) (impl_SameTree.g k) : Cx Bool) Try.f24 ((impl_SameTree.e (k + 1)).args.enc (a0, a1, ())) (impl_SameTree.e (k + 1)).ret.dec = impl_SameTree.fs k (impl_SameTree.f k) (slices_EqualFunc.f k) a0 a1 := by kernel_rfl
theorem impl_SameTree.ok1 (k : Nat) (hC : AllFun Try.prog (impl_SameTree.c k)) : Fun Try.prog 24 (impl_SameTree.e (k + 1)).G := fun_ok mixed (body := impl_SameTree.bd) Try.func24 (by kernel_rfl) (by kernel_rfl) (by kernel_rfl) hC (loops_all 0 (by kernel_rfl) fun i hi => absurd hi (Nat.not_lt_zero i)) (impl_SameTree.e (k + 1)) (fun a => Nat.le_of_ble_eq_true (by kernel_rfl)) fun a b h => (impl_SameTree.link k a.1 a.2.1).trans ((impl_SameTree.fS k a.1 a.2.1).symm.trans h)
theorem slices_EqualFunc.okk : ∀ k, Fun Try.prog 69 (slices_EqualFunc.e k).G ∧ Fun Try.prog 24 (impl_SameTree.e k).G
  | 0 => ⟨fun_zero (by kernel_rfl) fun _ => rfl, fun_zero (by kernel_rfl) fun _ => rfl⟩
  | k + 1 => have h := slices_EqualFunc.okk k; ⟨slices_EqualFunc.ok1 k ⟨h.2, trivial⟩, impl_SameTree.ok1 k ⟨h.1, trivial⟩⟩
theorem slices_EqualFunc.ok (k : Nat) : Fun Try.prog 69 (slices_EqualFunc.e k).G := (slices_EqualFunc.okk k).1
theorem impl_SameTree.ok (k : Nat) : Fun Try.prog 24 (impl_SameTree.e k).G := (slices_EqualFunc.okk k).2

noncomputable def laws_FnExactSameTree.f (k : Nat) (a0 : Tree) (a1 : Tree) : Option Bool :=
  (laws_szSolid.f k  (T1 a0) 1048576).bind fun t1 => if (decide (t1 < 0)) = true then (some true) else ((laws_szSolid.f k  (T1 a1) t1).bind fun t2 => if (decide (t2 < 0)) = true then (some true) else ((laws_toSolid.f k  (T1 a0)).bind fun t3 => (laws_toSolid.f k  (T1 a1)).bind fun t4 => (spec_SameTree.f k  (T1 t3) (T1 t4)).bind fun t5 => (laws_toSolid.f k  (T1 a0)).bind fun t6 => (laws_toSolid.f k  (T1 a1)).bind fun t7 => (impl_SameTree.f k  (T1 t6) (T1 t7)).bind fun t8 => if (!(t8 == t5)) = true then (some false) else ((laws_toSolid.f k  (T1 a0)).bind fun t9 => (laws_eqSolid.f k  (T1 t6) (T1 t9)).bind fun t10 => if (!t10) = true then (some false) else ((laws_toSolid.f k  (T1 a1)).bind fun t11 => (laws_eqSolid.f k  (T1 t7) (T1 t11)).bind fun t12 => if (!t12) = true then (some false) else (some true)))))
noncomputable def laws_FnExactSameTree.e (k : Nat) : FE := { α := Tree × Tree × Unit, β := Bool, args := (lCons aTree (lCons aTree lNil)), ret := (rOne aB), f := fun p => laws_FnExactSameTree.f k p.1 p.2.1 }
noncomputable def laws_FnExactSameTree.c (k : Nat) : List (Nat × CE) := [(21, .fn (laws_szSolid.e k)), (23, .fn (laws_toSolid.e k)), (22, .fn (spec_SameTree.e k)), (24, .fn (impl_SameTree.e k)), (18, .fn (laws_eqSolid.e k))]
noncomputable def laws_FnExactSameTree.bd : Code := match Try.f4.body with | some c => c | none => .skip
noncomputable def laws_FnExactSameTree.g (k : Nat) : List (Nat × LE) := []
theorem laws_FnExactSameTree.link (k : Nat) (a0 : Tree) (a1 : Tree) : evFun (mkCx Try.prog (laws_FnExactSameTree.c k) (laws_FnExactSameTree.g k) : Cx Bool) Try.f4 ((laws_FnExactSameTree.e k).args.enc (a0, a1, ())) (laws_FnExactSameTree.e k).ret.dec = laws_FnExactSameTree.f k a0 a1 := by kernel_rfl
theorem laws_FnExactSameTree.ok1 (k : Nat) (hC : AllFun Try.prog (laws_FnExactSameTree.c k)) : Fun Try.prog 4 (laws_FnExactSameTree.e k).G := fun_ok mixed (body := laws_FnExactSameTree.bd) Try.func4 (by kernel_rfl) (by kernel_rfl) (by kernel_rfl) hC (loops_all 0 (by kernel_rfl) fun i hi => absurd hi (Nat.not_lt_zero i)) (laws_FnExactSameTree.e k) (fun a => Nat.le_of_ble_eq_true (by kernel_rfl)) fun a b h => (laws_FnExactSameTree.link k a.1 a.2.1).trans h
theorem laws_FnExactSameTree.ok (k : Nat) : Fun Try.prog 4 (laws_FnExactSameTree.e k).G := laws_FnExactSameTree.ok1 k ⟨laws_szSolid.ok k, laws_toSolid.ok k, spec_SameTree.ok k, impl_SameTree.ok k, laws_eqSolid.ok k, trivial⟩

noncomputable def spec_l8Leaf.f (k : Nat) (a0 : Tree) : Option Bool :=
  some ((a0.kids.length : Int) == 0)
noncomputable def spec_l8Leaf.e (k : Nat) : FE := { α := Tree × Unit, β := Bool, args := (lCons aTree lNil), ret := (rOne aB), f := fun p => spec_l8Leaf.f k p.1 }
noncomputable def spec_l8Leaf.c (k : Nat) : List (Nat × CE) := []
noncomputable def spec_l8Leaf.bd : Code := match Try.f103.body with | some c => c | none => .skip
noncomputable def spec_l8Leaf.g (k : Nat) : List (Nat × LE) := []
theorem spec_l8Leaf.link (k : Nat) (a0 : Tree) : evFun (mkCx Try.prog (spec_l8Leaf.c k) (spec_l8Leaf.g k) : Cx Bool) Try.f103 ((spec_l8Leaf.e k).args.enc (a0, ())) (spec_l8Leaf.e k).ret.dec = spec_l8Leaf.f k a0 := by kernel_rfl
theorem spec_l8Leaf.ok1 (k : Nat) (hC : AllFun Try.prog (spec_l8Leaf.c k)) : Fun Try.prog 103 (spec_l8Leaf.e k).G := fun_ok mixed (body := spec_l8Leaf.bd) Try.func103 (by kernel_rfl) (by kernel_rfl) (by kernel_rfl) hC (loops_all 0 (by kernel_rfl) fun i hi => absurd hi (Nat.not_lt_zero i)) (spec_l8Leaf.e k) (fun a => Nat.le_of_ble_eq_true (by kernel_rfl)) fun a b h => (spec_l8Leaf.link k a.1).trans h
theorem spec_l8Leaf.ok (k : Nat) : Fun Try.prog 103 (spec_l8Leaf.e k).G := spec_l8Leaf.ok1 k trivial

noncomputable def spec_l8Count.H5 : Hd := ⟨[], [1, 2, 5, 6], [2]⟩
@[reducible] def spec_l8Count.A5 : Type := ((Int × Unit × Int × Int × Unit) × (Tree × Unit))
noncomputable def spec_l8Count.Z5 : SC spec_l8Count.A5 := sC spec_l8Count.H5 (eCons 1 (tP (aI .i64)) (eCons 2 (tRef 2 0) (eCons 5 (tP (aI .i64)) (eCons 6 (tP (aI .i64)) eNil)))) (bCons 2 (xVr cTree) bNil)
@[reducible] def spec_l8Count.B5 : Type := ((Int × Unit) × (Unit))
noncomputable def spec_l8Count.X5 : XC spec_l8Count.B5 := xExit 0 (sC ⟨[], [5], []⟩ (eCons 5 (tP (aI .i64)) eNil) bNil)
noncomputable def spec_l8Count.s5 (k : Nat) (self70 : Tree → Int → Option Int) (J : Int → Int → Int → Tree → Option spec_l8Count.B5) (x1 : Int) (x5 : Int) (x6 : Int) (b2 : Tree) : Option spec_l8Count.B5 :=
  if (decide (x6 < (b2.kids.length : Int))) = true then (if 0 ≤ x6 then (if x6 < (b2.kids.length : Int) then ((self70  (T1 (rd b2.kids x6)) (W (x1 - x5))).bind fun t2 => J x1 (W (x5 + t2)) (W (x6 + 1)) (T1 b2)) else none) else none) else (some ((x5, ()), (())))
noncomputable def spec_l8Count.l5 (k : Nat) (self70 : Tree → Int → Option Int) : Nat → Int → Int → Int → Tree → Option spec_l8Count.B5
  | 0, _, _, _, _ => none
  | n + 1, x1, x5, x6, b2 => spec_l8Count.s5 k self70 (spec_l8Count.l5 k self70 n) x1 x5 x6 b2
noncomputable def spec_l8Count.fs (k : Nat) (self70 : Tree → Int → Option Int) (a0 : Tree) (a1 : Int) : Option Int :=
  (spec_l8Leaf.f k  (T1 a0)).bind fun t1 => if t1 = true then (some 0) else (if (decide (a1 ≤ 0)) = true then (some 0) else ((spec_l8Count.l5 k self70 k a1 1 0 (T1 a0)).bind fun x3 => some x3.1.1))
noncomputable def spec_l8Count.f : Nat → Tree → Int → Option Int
  | 0, _, _ => none
  | k + 1, a0, a1 => spec_l8Count.fs k (spec_l8Count.f k) a0 a1
theorem spec_l8Count.fS (k : Nat) (a0 : Tree) (a1 : Int) : spec_l8Count.f (k + 1) a0 a1 = spec_l8Count.fs k (spec_l8Count.f k) a0 a1 := by first | rfl | rw [spec_l8Count.f]
noncomputable def spec_l8Count.e (k : Nat) : FE := { α := Tree × Int × Unit, β := Int, args := (lCons aTree (lCons (aI .i64) lNil)), ret := (rOne (aI .i64)), f := fun p => spec_l8Count.f k p.1 p.2.1 }
noncomputable def spec_l8Count.c (k : Nat) : List (Nat × CE) := [(103, .fn (spec_l8Leaf.e k)), (70, .fn (spec_l8Count.e k))]
noncomputable def spec_l8Count.bd : Code := match Try.f70.body with | some c => c | none => .skip
noncomputable def spec_l8Count.e5 (k : Nat) : LE := { H := spec_l8Count.H5, α := spec_l8Count.A5, β := spec_l8Count.B5, st := spec_l8Count.Z5, xt := spec_l8Count.X5, f := fun p => spec_l8Count.l5 k (spec_l8Count.f k) k p.1.1 p.1.2.2.1 p.1.2.2.2.1 p.2.1 }
noncomputable def spec_l8Count.g (k : Nat) : List (Nat × LE) := [(5, spec_l8Count.e5 k)]
theorem spec_l8Count.t5 (k : Nat) (I : S2 → Option spec_l8Count.B5) (x1 : Int) (x5 : Int) (x6 : Int) (b2 : Tree) : stepOf (mkCx Try.prog (spec_l8Count.c k) (spec_l8Count.g k) : Cx spec_l8Count.B5) (loopAt spec_l8Count.bd 0) spec_l8Count.H5 spec_l8Count.X5.dec I (spec_l8Count.Z5.enc ((x1, (), x5, x6, ()), (b2, ()))) = spec_l8Count.s5 k (spec_l8Count.f k) (fun x1 x5 x6 b2 => I (spec_l8Count.Z5.enc ((x1, (), x5, x6, ()), (b2, ())))) x1 x5 x6 b2 := by kernel_rfl
theorem spec_l8Count.i5 (k : Nat) : ∀ (n : Nat) (x1 : Int) (x5 : Int) (x6 : Int) (b2 : Tree), iter (evCode (mkCx Try.prog (spec_l8Count.c k) (spec_l8Count.g k) : Cx spec_l8Count.B5) (loopAt spec_l8Count.bd 0)) spec_l8Count.H5 spec_l8Count.X5.dec n (spec_l8Count.Z5.enc ((x1, (), x5, x6, ()), (b2, ()))) = spec_l8Count.l5 k (spec_l8Count.f k) n x1 x5 x6 b2
  | 0, _, _, _, _ => rfl
  | n + 1, x1, x5, x6, b2 => ((iter_step _ _ _ _ n _).trans (spec_l8Count.t5 k _ x1 x5 x6 b2)).trans (congrArg (fun J => spec_l8Count.s5 k (spec_l8Count.f k) J x1 x5 x6 b2) (funext fun x1 => funext fun x5 => funext fun x6 => funext fun b2 => spec_l8Count.i5 k n x1 x5 x6 b2))
theorem spec_l8Count.to5 (k : Nat) (hC : AllFun Try.prog (spec_l8Count.c k)) : LoopTo Try.prog 32 (spec_l8Count.e5 k) (loopAt spec_l8Count.bd 0) := loop_to mixed hC (by kernel_rfl) (loops_all 0 (by kernel_rfl) fun i hi => absurd hi (Nat.not_lt_zero i)) fun a b h => ⟨k, (spec_l8Count.i5 k k a.1.1 a.1.2.2.1 a.1.2.2.2.1 a.2.1).trans h⟩
theorem spec_l8Count.link (k : Nat) (a0 : Tree) (a1 : Int) : evFun (mkCx Try.prog (spec_l8Count.c k) (spec_l8Count.g k) : Cx Int) Try.f70 ((spec_l8Count.e (k + 1)).args.enc (a0, a1, ())) (spec_l8Count.e (k + 1)).ret.dec = spec_l8Count.fs k (spec_l8Count.f k) a0 a1 := by kernel_rfl
theorem spec_l8Count.ok1 (k : Nat) (hC : AllFun Try.prog (spec_l8Count.c k)) : Fun Try.prog 70 (spec_l8Count.e (k + 1)).G := fun_ok mixed (body := spec_l8Count.bd) Try.func70 (by kernel_rfl) (by kernel_rfl) (by kernel_rfl) hC (loops_all 1 (by kernel_rfl) fun i hi => by obtain rfl : i = 0 := Nat.lt_one_iff.1 hi; exact ⟨spec_l8Count.e5 k, by kernel_rfl, spec_l8Count.to5 k hC⟩) (spec_l8Count.e (k + 1)) (fun a => Nat.le_of_ble_eq_true (by kernel_rfl)) fun a b h => (spec_l8Count.link k a.1 a.2.1).trans ((spec_l8Count.fS k a.1 a.2.1).symm.trans h)
theorem spec_l8Count.ok : ∀ k, Fun Try.prog 70 (spec_l8Count.e k).G
  | 0 => fun_zero (by kernel_rfl) fun _ => rfl
  | k + 1 => spec_l8Count.ok1 k ⟨spec_l8Leaf.ok k, spec_l8Count.ok k, trivial⟩

noncomputable def spec_l1In.f (k : Nat) (a0 : Int) (a1 : Int) (a2 : Int) : Option Bool :=
  if (decide (a0 ≥ a1)) = true then (some (decide (a0 ≤ a2))) else (some false)
noncomputable def spec_l1In.e (k : Nat) : FE := { α := Int × Int × Int × Unit, β := Bool, args := (lCons (aI .i64) (lCons (aI .i64) (lCons (aI .i64) lNil))), ret := (rOne aB), f := fun p => spec_l1In.f k p.1 p.2.1 p.2.2.1 }
noncomputable def spec_l1In.c (k : Nat) : List (Nat × CE) := []
noncomputable def spec_l1In.bd : Code := match Try.f112.body with | some c => c | none => .skip
noncomputable def spec_l1In.g (k : Nat) : List (Nat × LE) := []
theorem spec_l1In.link (k : Nat) (a0 : Int) (a1 : Int) (a2 : Int) : evFun (mkCx Try.prog (spec_l1In.c k) (spec_l1In.g k) : Cx Bool) Try.f112 ((spec_l1In.e k).args.enc (a0, a1, a2, ())) (spec_l1In.e k).ret.dec = spec_l1In.f k a0 a1 a2 := by kernel_rfl
theorem spec_l1In.ok1 (k : Nat) (hC : AllFun Try.prog (spec_l1In.c k)) : Fun Try.prog 112 (spec_l1In.e k).G := fun_ok mixed (body := spec_l1In.bd) Try.func112 (by kernel_rfl) (by kernel_rfl) (by kernel_rfl) hC (loops_all 0 (by kernel_rfl) fun i hi => absurd hi (Nat.not_lt_zero i)) (spec_l1In.e k) (fun a => Nat.le_of_ble_eq_true (by kernel_rfl)) fun a b h => (spec_l1In.link k a.1 a.2.1 a.2.2.1).trans h
theorem spec_l1In.ok (k : Nat) : Fun Try.prog 112 (spec_l1In.e k).G := spec_l1In.ok1 k trivial

noncomputable def spec_l3In.f (k : Nat) (a0 : S4) : Option Bool :=
  (spec_l1In.f k  a0.a (W (0 - 500)) 500).bind fun t1 => if t1 = true then ((spec_l1In.f k  a0.b (W (0 - 500)) 500).bind fun t2 => if t2 = true then ((spec_l1In.f k  a0.c (W (0 - 500)) 500).bind fun t3 => if t3 = true then ((spec_l1In.f k  a0.d (W (0 - 500)) 500).bind fun t4 => some t4) else (some false)) else (some false)) else (some false)
noncomputable def spec_l3In.e (k : Nat) : FE := { α := S4 × Unit, β := Bool, args := (lCons aS4 lNil), ret := (rOne aB), f := fun p => spec_l3In.f k p.1 }
noncomputable def spec_l3In.c (k : Nat) : List (Nat × CE) := [(112, .fn (spec_l1In.e k))]
noncomputable def spec_l3In.bd : Code := match Try.f99.body with | some c => c | none => .skip
noncomputable def spec_l3In.g (k : Nat) : List (Nat × LE) := []
theorem spec_l3In.link (k : Nat) (a0 : S4) : evFun (mkCx Try.prog (spec_l3In.c k) (spec_l3In.g k) : Cx Bool) Try.f99 ((spec_l3In.e k).args.enc (a0, ())) (spec_l3In.e k).ret.dec = spec_l3In.f k a0 := by kernel_rfl
theorem spec_l3In.ok1 (k : Nat) (hC : AllFun Try.prog (spec_l3In.c k)) : Fun Try.prog 99 (spec_l3In.e k).G := fun_ok mixed (body := spec_l3In.bd) Try.func99 (by kernel_rfl) (by kernel_rfl) (by kernel_rfl) hC (loops_all 0 (by kernel_rfl) fun i hi => absurd hi (Nat.not_lt_zero i)) (spec_l3In.e k) (fun a => Nat.le_of_ble_eq_true (by kernel_rfl)) fun a b h => (spec_l3In.link k a.1).trans h
theorem spec_l3In.ok (k : Nat) : Fun Try.prog 99 (spec_l3In.e k).G := spec_l3In.ok1 k ⟨spec_l1In.ok k, trivial⟩

noncomputable def spec_l3Abs.f (k : Nat) (a0 : Int) : Option Int :=
  if (decide (a0 < 0)) = true then (some (W (0 - a0))) else (some a0)
noncomputable def spec_l3Abs.e (k : Nat) : FE := { α := Int × Unit, β := Int, args := (lCons (aI .i64) lNil), ret := (rOne (aI .i64)), f := fun p => spec_l3Abs.f k p.1 }
noncomputable def spec_l3Abs.c (k : Nat) : List (Nat × CE) := []
noncomputable def spec_l3Abs.bd : Code := match Try.f119.body with | some c => c | none => .skip
noncomputable def spec_l3Abs.g (k : Nat) : List (Nat × LE) := []
theorem spec_l3Abs.link (k : Nat) (a0 : Int) : evFun (mkCx Try.prog (spec_l3Abs.c k) (spec_l3Abs.g k) : Cx Int) Try.f119 ((spec_l3Abs.e k).args.enc (a0, ())) (spec_l3Abs.e k).ret.dec = spec_l3Abs.f k a0 := by kernel_rfl
theorem spec_l3Abs.ok1 (k : Nat) (hC : AllFun Try.prog (spec_l3Abs.c k)) : Fun Try.prog 119 (spec_l3Abs.e k).G := fun_ok mixed (body := spec_l3Abs.bd) Try.func119 (by kernel_rfl) (by kernel_rfl) (by kernel_rfl) hC (loops_all 0 (by kernel_rfl) fun i hi => absurd hi (Nat.not_lt_zero i)) (spec_l3Abs.e k) (fun a => Nat.le_of_ble_eq_true (by kernel_rfl)) fun a b h => (spec_l3Abs.link k a.1).trans h
theorem spec_l3Abs.ok (k : Nat) : Fun Try.prog 119 (spec_l3Abs.e k).G := spec_l3Abs.ok1 k trivial

noncomputable def spec_l3Gcd.H3 : Hd := ⟨[], [0, 1], []⟩
@[reducible] def spec_l3Gcd.A3 : Type := ((Int × Int × Unit) × (Unit))
noncomputable def spec_l3Gcd.Z3 : SC spec_l3Gcd.A3 := sC spec_l3Gcd.H3 (eCons 0 (tP (aI .i64)) (eCons 1 (tP (aI .i64)) eNil)) bNil
@[reducible] def spec_l3Gcd.B3 : Type := ((Int × Unit) × (Unit))
noncomputable def spec_l3Gcd.X3 : XC spec_l3Gcd.B3 := xExit 0 (sC ⟨[], [0], []⟩ (eCons 0 (tP (aI .i64)) eNil) bNil)
noncomputable def spec_l3Gcd.s3 (k : Nat)  (J : Int → Int → Option spec_l3Gcd.B3) (x0 : Int) (x1 : Int) : Option spec_l3Gcd.B3 :=
  if (decide (x1 > 0)) = true then (if x1 = 0 then none else (J x1 (x0.tmod x1))) else (some ((x0, ()), (())))
noncomputable def spec_l3Gcd.l3 (k : Nat)  : Nat → Int → Int → Option spec_l3Gcd.B3
  | 0, _, _ => none
  | n + 1, x0, x1 => spec_l3Gcd.s3 k (spec_l3Gcd.l3 k n) x0 x1
noncomputable def spec_l3Gcd.f (k : Nat) (a0 : Int) (a1 : Int) : Option Int :=
  (spec_l3Abs.f k  a0).bind fun t1 => (spec_l3Abs.f k  a1).bind fun t2 => (spec_l3Gcd.l3 k k t1 t2).bind fun x3 => some x3.1.1
noncomputable def spec_l3Gcd.e (k : Nat) : FE := { α := Int × Int × Unit, β := Int, args := (lCons (aI .i64) (lCons (aI .i64) lNil)), ret := (rOne (aI .i64)), f := fun p => spec_l3Gcd.f k p.1 p.2.1 }
noncomputable def spec_l3Gcd.c (k : Nat) : List (Nat × CE) := [(119, .fn (spec_l3Abs.e k))]
noncomputable def spec_l3Gcd.bd : Code := match Try.f100.body with | some c => c | none => .skip
noncomputable def spec_l3Gcd.e3 (k : Nat) : LE := { H := spec_l3Gcd.H3, α := spec_l3Gcd.A3, β := spec_l3Gcd.B3, st := spec_l3Gcd.Z3, xt := spec_l3Gcd.X3, f := fun p => spec_l3Gcd.l3 k k p.1.1 p.1.2.1 }
noncomputable def spec_l3Gcd.g (k : Nat) : List (Nat × LE) := [(3, spec_l3Gcd.e3 k)]
theorem spec_l3Gcd.t3 (k : Nat) (I : S2 → Option spec_l3Gcd.B3) (x0 : Int) (x1 : Int) : stepOf (mkCx Try.prog (spec_l3Gcd.c k) (spec_l3Gcd.g k) : Cx spec_l3Gcd.B3) (loopAt spec_l3Gcd.bd 0) spec_l3Gcd.H3 spec_l3Gcd.X3.dec I (spec_l3Gcd.Z3.enc ((x0, x1, ()), (()))) = spec_l3Gcd.s3 k (fun x0 x1 => I (spec_l3Gcd.Z3.enc ((x0, x1, ()), (())))) x0 x1 := by kernel_rfl
theorem spec_l3Gcd.i3 (k : Nat) : ∀ (n : Nat) (x0 : Int) (x1 : Int), iter (evCode (mkCx Try.prog (spec_l3Gcd.c k) (spec_l3Gcd.g k) : Cx spec_l3Gcd.B3) (loopAt spec_l3Gcd.bd 0)) spec_l3Gcd.H3 spec_l3Gcd.X3.dec n (spec_l3Gcd.Z3.enc ((x0, x1, ()), (()))) = spec_l3Gcd.l3 k n x0 x1
  | 0, _, _ => rfl
  | n + 1, x0, x1 => ((iter_step _ _ _ _ n _).trans (spec_l3Gcd.t3 k _ x0 x1)).trans (congrArg (fun J => spec_l3Gcd.s3 k J x0 x1) (funext fun x0 => funext fun x1 => spec_l3Gcd.i3 k n x0 x1))
theorem spec_l3Gcd.to3 (k : Nat) (hC : AllFun Try.prog (spec_l3Gcd.c k)) : LoopTo Try.prog 18 (spec_l3Gcd.e3 k) (loopAt spec_l3Gcd.bd 0) := loop_to mixed hC (by kernel_rfl) (loops_all 0 (by kernel_rfl) fun i hi => absurd hi (Nat.not_lt_zero i)) fun a b h => ⟨k, (spec_l3Gcd.i3 k k a.1.1 a.1.2.1).trans h⟩
theorem spec_l3Gcd.link (k : Nat) (a0 : Int) (a1 : Int) : evFun (mkCx Try.prog (spec_l3Gcd.c k) (spec_l3Gcd.g k) : Cx Int) Try.f100 ((spec_l3Gcd.e k).args.enc (a0, a1, ())) (spec_l3Gcd.e k).ret.dec = spec_l3Gcd.f k a0 a1 := by kernel_rfl
theorem spec_l3Gcd.ok1 (k : Nat) (hC : AllFun Try.prog (spec_l3Gcd.c k)) : Fun Try.prog 100 (spec_l3Gcd.e k).G := fun_ok mixed (body := spec_l3Gcd.bd) Try.func100 (by kernel_rfl) (by kernel_rfl) (by kernel_rfl) hC (loops_all 1 (by kernel_rfl) fun i hi => by obtain rfl : i = 0 := Nat.lt_one_iff.1 hi; exact ⟨spec_l3Gcd.e3 k, by kernel_rfl, spec_l3Gcd.to3 k hC⟩) (spec_l3Gcd.e k) (fun a => Nat.le_of_ble_eq_true (by kernel_rfl)) fun a b h => (spec_l3Gcd.link k a.1 a.2.1).trans h
theorem spec_l3Gcd.ok (k : Nat) : Fun Try.prog 100 (spec_l3Gcd.e k).G := spec_l3Gcd.ok1 k ⟨spec_l3Abs.ok k, trivial⟩

noncomputable def spec_PlaneOk.f (k : Nat) (a0 : S4) : Option Bool :=
  (spec_l3In.f k  a0).bind fun t1 => if t1 = true then (if (a0.a != 0) = true then ((spec_l3Gcd.f k  a0.a a0.b).bind fun t2 => (spec_l3Gcd.f k  a0.c a0.d).bind fun t3 => (spec_l3Gcd.f k  t2 t3).bind fun t4 => some (t4 == 1)) else (if (a0.b != 0) = true then ((spec_l3Gcd.f k  a0.a a0.b).bind fun t5 => (spec_l3Gcd.f k  a0.c a0.d).bind fun t6 => (spec_l3Gcd.f k  t5 t6).bind fun t7 => some (t7 == 1)) else (if (a0.c != 0) = true then ((spec_l3Gcd.f k  a0.a a0.b).bind fun t8 => (spec_l3Gcd.f k  a0.c a0.d).bind fun t9 => (spec_l3Gcd.f k  t8 t9).bind fun t10 => some (t10 == 1)) else (some false)))) else (some false)
noncomputable def spec_PlaneOk.e (k : Nat) : FE := { α := S4 × Unit, β := Bool, args := (lCons aS4 lNil), ret := (rOne aB), f := fun p => spec_PlaneOk.f k p.1 }
noncomputable def spec_PlaneOk.c (k : Nat) : List (Nat × CE) := [(99, .fn (spec_l3In.e k)), (100, .fn (spec_l3Gcd.e k))]
noncomputable def spec_PlaneOk.bd : Code := match Try.f57.body with | some c => c | none => .skip
noncomputable def spec_PlaneOk.g (k : Nat) : List (Nat × LE) := []
theorem spec_PlaneOk.link (k : Nat) (a0 : S4) : evFun (mkCx Try.prog (spec_PlaneOk.c k) (spec_PlaneOk.g k) : Cx Bool) Try.f57 ((spec_PlaneOk.e k).args.enc (a0, ())) (spec_PlaneOk.e k).ret.dec = spec_PlaneOk.f k a0 := by kernel_rfl
theorem spec_PlaneOk.ok1 (k : Nat) (hC : AllFun Try.prog (spec_PlaneOk.c k)) : Fun Try.prog 57 (spec_PlaneOk.e k).G := fun_ok mixed (body := spec_PlaneOk.bd) Try.func57 (by kernel_rfl) (by kernel_rfl) (by kernel_rfl) hC (loops_all 0 (by kernel_rfl) fun i hi => absurd hi (Nat.not_lt_zero i)) (spec_PlaneOk.e k) (fun a => Nat.le_of_ble_eq_true (by kernel_rfl)) fun a b h => (spec_PlaneOk.link k a.1).trans h
theorem spec_PlaneOk.ok (k : Nat) : Fun Try.prog 57 (spec_PlaneOk.e k).G := spec_PlaneOk.ok1 k ⟨spec_l3In.ok k, spec_l3Gcd.ok k, trivial⟩

end Go.Proofs.Ytfgaeenlnkioaaa.G
