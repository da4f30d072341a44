/- Go functions told as plain Lean functions; that the code does what these tell. Printed by a program of the session (evp.py). -/
import Derived.Test.YtfgaeenlnkioaaaEv16
namespace Go.Proofs.Ytfgaeenlnkioaaa.G
open Go Go.RowKit Go.Proofs Go.Proofs.Ytfgaeenlnkioaaa.Ev
set_option linter.unusedVariables false
set_option maxRecDepth 100000

noncomputable def laws_eqPlane.f (k : Nat) (a0 : S4) (a1 : S4) : Option Bool :=
  if (a0.a != a1.a) = true then (some false) else (if (a0.b != a1.b) = true then (some false) else (if (a0.c != a1.c) = true then (some false) else (if (a0.d != a1.d) = true then (some false) else (some true))))
noncomputable def laws_eqPlane.e (k : Nat) : FE := { α := S4 × S4 × Unit, β := Bool, args := (lCons aS4 (lCons aS4 lNil)), ret := (rOne aB), f := fun p => laws_eqPlane.f k p.1 p.2.1 }
noncomputable def laws_eqPlane.c (k : Nat) : List (Nat × CE) := []
noncomputable def laws_eqPlane.bd : Code := match Try.f63.body with | some c => c | none => .skip
noncomputable def laws_eqPlane.g (k : Nat) : List (Nat × LE) := []
theorem laws_eqPlane.link (k : Nat) (a0 : S4) (a1 : S4) : evFun (mkCx Try.prog (laws_eqPlane.c k) (laws_eqPlane.g k) : Cx Bool) Try.f63 ((laws_eqPlane.e k).args.enc (a0, a1, ())) (laws_eqPlane.e k).ret.dec = laws_eqPlane.f k a0 a1 := by kernel_rfl
theorem laws_eqPlane.ok1 (k : Nat) (hC : AllFun Try.prog (laws_eqPlane.c k)) : Fun Try.prog 63 (laws_eqPlane.e k).G := fun_ok mixed (body := laws_eqPlane.bd) Try.func63 (by kernel_rfl) (by kernel_rfl) (by kernel_rfl) hC (loops_all 0 (by kernel_rfl) fun i hi => absurd hi (Nat.not_lt_zero i)) (laws_eqPlane.e k) (fun a => Nat.le_of_ble_eq_true (by kernel_rfl)) fun a b h => (laws_eqPlane.link k a.1 a.2.1).trans h
theorem laws_eqPlane.ok (k : Nat) : Fun Try.prog 63 (laws_eqPlane.e k).G := laws_eqPlane.ok1 k trivial

noncomputable def laws_eqSolidS.H4 : Hd := ⟨[], [0, 1, 5], []⟩
@[reducible] def laws_eqSolidS.A4 : Type := (((List Tree) × (List Tree) × Int × Unit) × (Unit))
noncomputable def laws_eqSolidS.Z4 : SC laws_eqSolidS.A4 := sC laws_eqSolidS.H4 (eCons 0 (tP (aSl .tree)) (eCons 1 (tP (aSl .tree)) (eCons 5 (tP (aI .i64)) eNil))) bNil
@[reducible] def laws_eqSolidS.B4 : Type := ((Bool × Unit) × (Unit)) ⊕ ((Unit) × (Unit))
noncomputable def laws_eqSolidS.X4 : XC laws_eqSolidS.B4 := xOr (xRet (sC ⟨[], [4], []⟩ (eCons 4 (tP aB) eNil) bNil)) (xExit 0 (sC ⟨[], [], []⟩ eNil bNil))
noncomputable def laws_eqSolidS.s4 (k : Nat) (self18 : Tree → Tree → Option Bool) (self64 : (List Tree) → (List Tree) → Option Bool) (J : (List Tree) → (List Tree) → Int → Option laws_eqSolidS.B4) (x0 : List Tree) (x1 : List Tree) (x5 : Int) : Option laws_eqSolidS.B4 :=
  if (decide (x5 < (x0.length : Int))) = true then (if 0 ≤ x5 then (if x5 < (x0.length : Int) then (if 0 ≤ x5 then (if x5 < (x1.length : Int) then ((self18  (T1 (rd x0 x5)) (T1 (rd x1 x5))).bind fun t1 => if (!t1) = true then (some (.inl ((false, ()), (())))) else (J x0 x1 (W (x5 + 1)))) else none) else none) else none) else none) else (some (.inr ((()), (()))))
noncomputable def laws_eqSolidS.l4 (k : Nat) (self18 : Tree → Tree → Option Bool) (self64 : (List Tree) → (List Tree) → Option Bool) : Nat → (List Tree) → (List Tree) → Int → Option laws_eqSolidS.B4
  | 0, _, _, _ => none
  | n + 1, x0, x1, x5 => laws_eqSolidS.s4 k self18 self64 (laws_eqSolidS.l4 k self18 self64 n) x0 x1 x5
noncomputable def laws_eqSolidS.fs (k : Nat) (self18 : Tree → Tree → Option Bool) (self64 : (List Tree) → (List Tree) → Option Bool) (a0 : List Tree) (a1 : List Tree) : Option Bool :=
  if ((a0.length : Int) != (a1.length : Int)) = true then (some false) else ((laws_eqSolidS.l4 k self18 self64 k a0 a1 0).bind fun | .inl r2 => (some r2.1.1) | .inr x3 => (some true))
noncomputable def laws_eqSolid.fs (k : Nat) (self18 : Tree → Tree → Option Bool) (self64 : (List Tree) → (List Tree) → Option Bool) (a0 : Tree) (a1 : Tree) : Option Bool :=
  if (!(a0.inn == a1.inn)) = true then (some false) else ((laws_eqPlane.f k  a0.p a1.p).bind fun t1 => if (!t1) = true then (some false) else ((self64  a0.kids a1.kids).bind fun t2 => if (!t2) = true then (some false) else (some true)))
mutual
noncomputable def laws_eqSolidS.f : Nat → (List Tree) → (List Tree) → Option Bool
  | 0, _, _ => none
  | k + 1, a0, a1 => laws_eqSolidS.fs k (laws_eqSolid.f k) (laws_eqSolidS.f k) a0 a1
noncomputable def laws_eqSolid.f : Nat → Tree → Tree → Option Bool
  | 0, _, _ => none
  | k + 1, a0, a1 => laws_eqSolid.fs k (laws_eqSolid.f k) (laws_eqSolidS.f k) a0 a1
end
theorem laws_eqSolidS.fS (k : Nat) (a0 : List Tree) (a1 : List Tree) : laws_eqSolidS.f (k + 1) a0 a1 = laws_eqSolidS.fs k (laws_eqSolid.f k) (laws_eqSolidS.f k) a0 a1 := by first | rfl | rw [laws_eqSolidS.f]
theorem laws_eqSolid.fS (k : Nat) (a0 : Tree) (a1 : Tree) : laws_eqSolid.f (k + 1) a0 a1 = laws_eqSolid.fs k (laws_eqSolid.f k) (laws_eqSolidS.f k) a0 a1 := by first | rfl | rw [laws_eqSolid.f]
noncomputable def laws_eqSolidS.e (k : Nat) : FE := { α := (List Tree) × (List Tree) × Unit, β := Bool, args := (lCons (aSl .tree) (lCons (aSl .tree) lNil)), ret := (rOne aB), f := fun p => laws_eqSolidS.f k p.1 p.2.1 }
noncomputable def laws_eqSolid.e (k : Nat) : FE := { α := Tree × Tree × Unit, β := Bool, args := (lCons aTree (lCons aTree lNil)), ret := (rOne aB), f := fun p => laws_eqSolid.f k p.1 p.2.1 }
noncomputable def laws_eqSolidS.c (k : Nat) : List (Nat × CE) := [(18, .fn (laws_eqSolid.e k))]
noncomputable def laws_eqSolidS.bd : Code := match Try.f64.body with | some c => c | none => .skip
noncomputable def laws_eqSolidS.e4 (k : Nat) : LE := { H := laws_eqSolidS.H4, α := laws_eqSolidS.A4, β := laws_eqSolidS.B4, st := laws_eqSolidS.Z4, xt := laws_eqSolidS.X4, f := fun p => laws_eqSolidS.l4 k (laws_eqSolid.f k) (laws_eqSolidS.f k) k p.1.1 p.1.2.1 p.1.2.2.1 }
noncomputable def laws_eqSolidS.g (k : Nat) : List (Nat × LE) := [(4, laws_eqSolidS.e4 k)]
theorem laws_eqSolidS.t4 (k : Nat) (I : S2 → Option laws_eqSolidS.B4) (x0 : List Tree) (x1 : List Tree) (x5 : Int) : stepOf (mkCx Try.prog (laws_eqSolidS.c k) (laws_eqSolidS.g k) : Cx laws_eqSolidS.B4) (loopAt laws_eqSolidS.bd 0) laws_eqSolidS.H4 laws_eqSolidS.X4.dec I (laws_eqSolidS.Z4.enc ((x0, x1, x5, ()), (()))) = laws_eqSolidS.s4 k (laws_eqSolid.f k) (laws_eqSolidS.f k) (fun x0 x1 x5 => I (laws_eqSolidS.Z4.enc ((x0, x1, x5, ()), (())))) x0 x1 x5 := by kernel_rfl
theorem laws_eqSolidS.i4 (k : Nat) : ∀ (n : Nat) (x0 : List Tree) (x1 : List Tree) (x5 : Int), iter (evCode (mkCx Try.prog (laws_eqSolidS.c k) (laws_eqSolidS.g k) : Cx laws_eqSolidS.B4) (loopAt laws_eqSolidS.bd 0)) laws_eqSolidS.H4 laws_eqSolidS.X4.dec n (laws_eqSolidS.Z4.enc ((x0, x1, x5, ()), (()))) = laws_eqSolidS.l4 k (laws_eqSolid.f k) (laws_eqSolidS.f k) n x0 x1 x5
  | 0, _, _, _ => rfl
  | n + 1, x0, x1, x5 => ((iter_step _ _ _ _ n _).trans (laws_eqSolidS.t4 k _ x0 x1 x5)).trans (congrArg (fun J => laws_eqSolidS.s4 k (laws_eqSolid.f k) (laws_eqSolidS.f k) J x0 x1 x5) (funext fun x0 => funext fun x1 => funext fun x5 => laws_eqSolidS.i4 k n x0 x1 x5))
theorem laws_eqSolidS.to4 (k : Nat) (hC : AllFun Try.prog (laws_eqSolidS.c k)) : LoopTo Try.prog 27 (laws_eqSolidS.e4 k) (loopAt laws_eqSolidS.bd 0) := loop_to mixed hC (by kernel_rfl) (loops_all 0 (by kernel_rfl) fun i hi => absurd hi (Nat.not_lt_zero i)) fun a b h => ⟨k, (laws_eqSolidS.i4 k k a.1.1 a.1.2.1 a.1.2.2.1).trans h⟩
theorem laws_eqSolidS.link (k : Nat) (a0 : List Tree) (a1 : List Tree) : evFun (mkCx Try.prog (laws_eqSolidS.c k) (laws_eqSolidS.g k) : Cx Bool) Try.f64 ((laws_eqSolidS.e (k + 1)).args.enc (a0, a1, ())) (laws_eqSolidS.e (k + 1)).ret.dec = laws_eqSolidS.fs k (laws_eqSolid.f k) (laws_eqSolidS.f k) a0 a1 := by kernel_rfl
theorem laws_eqSolidS.ok1 (k : Nat) (hC : AllFun Try.prog (laws_eqSolidS.c k)) : Fun Try.prog 64 (laws_eqSolidS.e (k + 1)).G := fun_ok mixed (body := laws_eqSolidS.bd) Try.func64 (by kernel_rfl) (by kernel_rfl) (by kernel_rfl) hC (loops_all 1 (by kernel_rfl) fun i hi => by obtain rfl : i = 0 := Nat.lt_one_iff.1 hi; exact ⟨laws_eqSolidS.e4 k, by kernel_rfl, laws_eqSolidS.to4 k hC⟩) (laws_eqSolidS.e (k + 1)) (fun a => Nat.le_of_ble_eq_true (by kernel_rfl)) fun a b h => (laws_eqSolidS.link k a.1 a.2.1).trans ((laws_eqSolidS.fS k a.1 a.2.1).symm.trans h)
noncomputable def laws_eqSolid.c (k : Nat) : List (Nat × CE) := [(63, .fn (laws_eqPlane.e k)), (64, .fn (laws_eqSolidS.e k))]
noncomputable def laws_eqSolid.bd : Code := match Try.f18.body with | some c => c | none => .skip
noncomputable def laws_eqSolid.g (k : Nat) : List (Nat × LE) := []
theorem laws_eqSolid.link (k : Nat) (a0 : Tree) (a1 : Tree) : evFun (mkCx Try.prog (laws_eqSolid.c k) (laws_eqSolid.g k) : Cx Bool) Try.f18 ((laws_eqSolid.e (k + 1)).args.enc (a0, a1, ())) (laws_eqSolid.e (k + 1)).ret.dec = laws_eqSolid.fs k (laws_eqSolid.f k) (laws_eqSolidS.f k) a0 a1 := by kernel_rfl
theorem laws_eqSolid.ok1 (k : Nat) (hC : AllFun Try.prog (laws_eqSolid.c k)) : Fun Try.prog 18 (laws_eqSolid.e (k + 1)).G := fun_ok mixed (body := laws_eqSolid.bd) Try.func18 (by kernel_rfl) (by kernel_rfl) (by kernel_rfl) hC (loops_all 0 (by kernel_rfl) fun i hi => absurd hi (Nat.not_lt_zero i)) (laws_eqSolid.e (k + 1)) (fun a => Nat.le_of_ble_eq_true (by kernel_rfl)) fun a b h => (laws_eqSolid.link k a.1 a.2.1).trans ((laws_eqSolid.fS k a.1 a.2.1).symm.trans h)
theorem laws_eqSolidS.okk : ∀ k, Fun Try.prog 64 (laws_eqSolidS.e k).G ∧ Fun Try.prog 18 (laws_eqSolid.e k).G
  | 0 => ⟨fun_zero (by kernel_rfl) fun _ => rfl, fun_zero (by kernel_rfl) fun _ => rfl⟩
  | k + 1 => have h := laws_eqSolidS.okk k; ⟨laws_eqSolidS.ok1 k ⟨h.2, trivial⟩, laws_eqSolid.ok1 k ⟨laws_eqPlane.ok k, h.1, trivial⟩⟩
theorem laws_eqSolidS.ok (k : Nat) : Fun Try.prog 64 (laws_eqSolidS.e k).G := (laws_eqSolidS.okk k).1
theorem laws_eqSolid.ok (k : Nat) : Fun Try.prog 18 (laws_eqSolid.e k).G := (laws_eqSolidS.okk k).2

noncomputable def laws_szSolidS.H5 : Hd := ⟨[], [0, 1, 5], []⟩
@[reducible] def laws_szSolidS.A5 : Type := (((List Tree) × Int × Int × Unit) × (Unit))
noncomputable def laws_szSolidS.Z5 : SC laws_szSolidS.A5 := sC laws_szSolidS.H5 (eCons 0 (tP (aSl .tree)) (eCons 1 (tP (aI .i64)) (eCons 5 (tP (aI .i64)) eNil))) bNil
@[reducible] def laws_szSolidS.B5 : Type := ((Int × Unit) × (Unit)) ⊕ ((Int × Unit) × (Unit))
noncomputable def laws_szSolidS.X5 : XC laws_szSolidS.B5 := xOr (xRet (sC ⟨[], [4], []⟩ (eCons 4 (tP (aI .i64)) eNil) bNil)) (xExit 0 (sC ⟨[], [1], []⟩ (eCons 1 (tP (aI .i64)) eNil) bNil))
noncomputable def laws_szSolidS.s5 (k : Nat) (self21 : Tree → Int → Option Int) (self67 : (List Tree) → Int → Option Int) (J : (List Tree) → Int → Int → Option laws_szSolidS.B5) (x0 : List Tree) (x1 : Int) (x5 : Int) : Option laws_szSolidS.B5 :=
  if (decide (x5 < (x0.length : Int))) = true then (if 0 ≤ x5 then (if x5 < (x0.length : Int) then ((self21  (T1 (rd x0 x5)) x1).bind fun t1 => if (decide (t1 < 0)) = true then (some (.inl (((-1), ()), (())))) else (J x0 t1 (W (x5 + 1)))) else none) else none) else (some (.inr ((x1, ()), (()))))
noncomputable def laws_szSolidS.l5 (k : Nat) (self21 : Tree → Int → Option Int) (self67 : (List Tree) → Int → Option Int) : Nat → (List Tree) → Int → Int → Option laws_szSolidS.B5
  | 0, _, _, _ => none
  | n + 1, x0, x1, x5 => laws_szSolidS.s5 k self21 self67 (laws_szSolidS.l5 k self21 self67 n) x0 x1 x5
noncomputable def laws_szSolidS.fs (k : Nat) (self21 : Tree → Int → Option Int) (self67 : (List Tree) → Int → Option Int) (a0 : List Tree) (a1 : Int) : Option Int :=
  if (decide ((W (a1 - (a0.length : Int))) < 0)) = true then (some (-1)) else ((laws_szSolidS.l5 k self21 self67 k a0 (W (a1 - (a0.length : Int))) 0).bind fun | .inl r2 => (some r2.1.1) | .inr x3 => (some x3.1.1))
noncomputable def laws_szSolid.fs (k : Nat) (self21 : Tree → Int → Option Int) (self67 : (List Tree) → Int → Option Int) (a0 : Tree) (a1 : Int) : Option Int :=
  (self67  a0.kids a1).bind fun t1 => if (decide (t1 < 0)) = true then (some (-1)) else (some t1)
mutual
noncomputable def laws_szSolidS.f : Nat → (List Tree) → Int → Option Int
  | 0, _, _ => none
  | k + 1, a0, a1 => laws_szSolidS.fs k (laws_szSolid.f k) (laws_szSolidS.f k) a0 a1
noncomputable def laws_szSolid.f : Nat → Tree → Int → Option Int
  | 0, _, _ => none
  | k + 1, a0, a1 => laws_szSolid.fs k (laws_szSolid.f k) (laws_szSolidS.f k) a0 a1
end
theorem laws_szSolidS.fS (k : Nat) (a0 : List Tree) (a1 : Int) : laws_szSolidS.f (k + 1) a0 a1 = laws_szSolidS.fs k (laws_szSolid.f k) (laws_szSolidS.f k) a0 a1 := by first | rfl | rw [laws_szSolidS.f]
theorem laws_szSolid.fS (k : Nat) (a0 : Tree) (a1 : Int) : laws_szSolid.f (k + 1) a0 a1 = laws_szSolid.fs k (laws_szSolid.f k) (laws_szSolidS.f k) a0 a1 := by first | rfl | rw [laws_szSolid.f]
noncomputable def laws_szSolidS.e (k : Nat) : FE := { α := (List Tree) × Int × Unit, β := Int, args := (lCons (aSl .tree) (lCons (aI .i64) lNil)), ret := (rOne (aI .i64)), f := fun p => laws_szSolidS.f k p.1 p.2.1 }
noncomputable def laws_szSolid.e (k : Nat) : FE := { α := Tree × Int × Unit, β := Int, args := (lCons aTree (lCons (aI .i64) lNil)), ret := (rOne (aI .i64)), f := fun p => laws_szSolid.f k p.1 p.2.1 }
noncomputable def laws_szSolidS.c (k : Nat) : List (Nat × CE) := [(21, .fn (laws_szSolid.e k))]
noncomputable def laws_szSolidS.bd : Code := match Try.f67.body with | some c => c | none => .skip
noncomputable def laws_szSolidS.e5 (k : Nat) : LE := { H := laws_szSolidS.H5, α := laws_szSolidS.A5, β := laws_szSolidS.B5, st := laws_szSolidS.Z5, xt := laws_szSolidS.X5, f := fun p => laws_szSolidS.l5 k (laws_szSolid.f k) (laws_szSolidS.f k) k p.1.1 p.1.2.1 p.1.2.2.1 }
noncomputable def laws_szSolidS.g (k : Nat) : List (Nat × LE) := [(5, laws_szSolidS.e5 k)]
theorem laws_szSolidS.t5 (k : Nat) (I : S2 → Option laws_szSolidS.B5) (x0 : List Tree) (x1 : Int) (x5 : Int) : stepOf (mkCx Try.prog (laws_szSolidS.c k) (laws_szSolidS.g k) : Cx laws_szSolidS.B5) (loopAt laws_szSolidS.bd 0) laws_szSolidS.H5 laws_szSolidS.X5.dec I (laws_szSolidS.Z5.enc ((x0, x1, x5, ()), (()))) = laws_szSolidS.s5 k (laws_szSolid.f k) (laws_szSolidS.f k) (fun x0 x1 x5 => I (laws_szSolidS.Z5.enc ((x0, x1, x5, ()), (())))) x0 x1 x5 := by kernel_rfl
theorem laws_szSolidS.i5 (k : Nat) : ∀ (n : Nat) (x0 : List Tree) (x1 : Int) (x5 : Int), iter (evCode (mkCx Try.prog (laws_szSolidS.c k) (laws_szSolidS.g k) : Cx laws_szSolidS.B5) (loopAt laws_szSolidS.bd 0)) laws_szSolidS.H5 laws_szSolidS.X5.dec n (laws_szSolidS.Z5.enc ((x0, x1, x5, ()), (()))) = laws_szSolidS.l5 k (laws_szSolid.f k) (laws_szSolidS.f k) n x0 x1 x5
  | 0, _, _, _ => rfl
  | n + 1, x0, x1, x5 => ((iter_step _ _ _ _ n _).trans (laws_szSolidS.t5 k _ x0 x1 x5)).trans (congrArg (fun J => laws_szSolidS.s5 k (laws_szSolid.f k) (laws_szSolidS.f k) J x0 x1 x5) (funext fun x0 => funext fun x1 => funext fun x5 => laws_szSolidS.i5 k n x0 x1 x5))
theorem laws_szSolidS.to5 (k : Nat) (hC : AllFun Try.prog (laws_szSolidS.c k)) : LoopTo Try.prog 27 (laws_szSolidS.e5 k) (loopAt laws_szSolidS.bd 0) := loop_to mixed hC (by kernel_rfl) (loops_all 0 (by kernel_rfl) fun i hi => absurd hi (Nat.not_lt_zero i)) fun a b h => ⟨k, (laws_szSolidS.i5 k k a.1.1 a.1.2.1 a.1.2.2.1).trans h⟩
theorem laws_szSolidS.link (k : Nat) (a0 : List Tree) (a1 : Int) : evFun (mkCx Try.prog (laws_szSolidS.c k) (laws_szSolidS.g k) : Cx Int) Try.f67 ((laws_szSolidS.e (k + 1)).args.enc (a0, a1, ())) (laws_szSolidS.e (k + 1)).ret.dec = laws_szSolidS.fs k (laws_szSolid.f k) (laws_szSolidS.f k) a0 a1 := by kernel_rfl
theorem laws_szSolidS.ok1 (k : Nat) (hC : AllFun Try.prog (laws_szSolidS.c k)) : Fun Try.prog 67 (laws_szSolidS.e (k + 1)).G := fun_ok mixed (body := laws_szSolidS.bd) Try.func67 (by kernel_rfl) (by kernel_rfl) (by kernel_rfl) hC (loops_all 1 (by kernel_rfl) fun i hi => by obtain rfl : i = 0 := Nat.lt_one_iff.1 hi; exact ⟨laws_szSolidS.e5 k, by kernel_rfl, laws_szSolidS.to5 k hC⟩) (laws_szSolidS.e (k + 1)) (fun a => Nat.le_of_ble_eq_true (by kernel_rfl)) fun a b h => (laws_szSolidS.link k a.1 a.2.1).trans ((laws_szSolidS.fS k a.1 a.2.1).symm.trans h)
noncomputable def laws_szSolid.c (k : Nat) : List (Nat × CE) := [(67, .fn (laws_szSolidS.e k))]
noncomputable def laws_szSolid.bd : Code := match Try.f21.body with | some c => c | none => .skip
noncomputable def laws_szSolid.g (k : Nat) : List (Nat × LE) := []
theorem laws_szSolid.link (k : Nat) (a0 : Tree) (a1 : Int) : evFun (mkCx Try.prog (laws_szSolid.c k) (laws_szSolid.g k) : Cx Int) Try.f21 ((laws_szSolid.e (k + 1)).args.enc (a0, a1, ())) (laws_szSolid.e (k + 1)).ret.dec = laws_szSolid.fs k (laws_szSolid.f k) (laws_szSolidS.f k) a0 a1 := by kernel_rfl
theorem laws_szSolid.ok1 (k : Nat) (hC : AllFun Try.prog (laws_szSolid.c k)) : Fun Try.prog 21 (laws_szSolid.e (k + 1)).G := fun_ok mixed (body := laws_szSolid.bd) Try.func21 (by kernel_rfl) (by kernel_rfl) (by kernel_rfl) hC (loops_all 0 (by kernel_rfl) fun i hi => absurd hi (Nat.not_lt_zero i)) (laws_szSolid.e (k + 1)) (fun a => Nat.le_of_ble_eq_true (by kernel_rfl)) fun a b h => (laws_szSolid.link k a.1 a.2.1).trans ((laws_szSolid.fS k a.1 a.2.1).symm.trans h)
theorem laws_szSolidS.okk : ∀ k, Fun Try.prog 67 (laws_szSolidS.e k).G ∧ Fun Try.prog 21 (laws_szSolid.e k).G
  | 0 => ⟨fun_zero (by kernel_rfl) fun _ => rfl, fun_zero (by kernel_rfl) fun _ => rfl⟩
  | k + 1 => have h := laws_szSolidS.okk k; ⟨laws_szSolidS.ok1 k ⟨h.2, trivial⟩, laws_szSolid.ok1 k ⟨h.1, trivial⟩⟩
theorem laws_szSolidS.ok (k : Nat) : Fun Try.prog 67 (laws_szSolidS.e k).G := (laws_szSolidS.okk k).1
theorem laws_szSolid.ok (k : Nat) : Fun Try.prog 21 (laws_szSolid.e k).G := (laws_szSolidS.okk k).2

noncomputable def laws_toPlane.f (k : Nat) (a0 : S4) : Option S4 :=
  some a0
noncomputable def laws_toPlane.e (k : Nat) : FE := { α := S4 × Unit, β := S4, args := (lCons aS4 lNil), ret := (rOne aS4), f := fun p => laws_toPlane.f k p.1 }
noncomputable def laws_toPlane.c (k : Nat) : List (Nat × CE) := []
noncomputable def laws_toPlane.bd : Code := match Try.f16.body with | some c => c | none => .skip
noncomputable def laws_toPlane.g (k : Nat) : List (Nat × LE) := []
theorem laws_toPlane.link (k : Nat) (a0 : S4) : evFun (mkCx Try.prog (laws_toPlane.c k) (laws_toPlane.g k) : Cx S4) Try.f16 ((laws_toPlane.e k).args.enc (a0, ())) (laws_toPlane.e k).ret.dec = laws_toPlane.f k a0 := by kernel_rfl
theorem laws_toPlane.ok1 (k : Nat) (hC : AllFun Try.prog (laws_toPlane.c k)) : Fun Try.prog 16 (laws_toPlane.e k).G := fun_ok mixed (body := laws_toPlane.bd) Try.func16 (by kernel_rfl) (by kernel_rfl) (by kernel_rfl) hC (loops_all 0 (by kernel_rfl) fun i hi => absurd hi (Nat.not_lt_zero i)) (laws_toPlane.e k) (fun a => Nat.le_of_ble_eq_true (by kernel_rfl)) fun a b h => (laws_toPlane.link k a.1).trans h
theorem laws_toPlane.ok (k : Nat) : Fun Try.prog 16 (laws_toPlane.e k).G := laws_toPlane.ok1 k trivial

noncomputable def laws_toSolidS.H3 : Hd := ⟨[], [0, 3, 4], []⟩
@[reducible] def laws_toSolidS.A3 : Type := (((List Tree) × Unit × Int × Unit) × ((List Tree) × Unit))
noncomputable def laws_toSolidS.Z3 : SC laws_toSolidS.A3 := sC laws_toSolidS.H3 (eCons 0 (tP (aSl .tree)) (eCons 3 (tOsl 1000003) (eCons 4 (tP (aI .i64)) eNil))) (bCons 1000003 (xRow 27 .tree) bNil)
@[reducible] def laws_toSolidS.B3 : Type := ((Unit × Unit) × ((List Tree) × Unit))
noncomputable def laws_toSolidS.X3 : XC laws_toSolidS.B3 := xExit 0 (sC ⟨[], [3], []⟩ (eCons 3 (tOsl 1000003) eNil) (bCons 1000003 (xRow 27 .tree) bNil))
noncomputable def laws_toSolidS.s3 (k : Nat) (self23 : Tree → Option Tree) (self68 : (List Tree) → Option (List Tree)) (J : (List Tree) → Int → (List Tree) → Option laws_toSolidS.B3) (x0 : List Tree) (x4 : Int) (b1000003 : List Tree) : Option laws_toSolidS.B3 :=
  if (decide (x4 < (x0.length : Int))) = true then (if 0 ≤ x4 then (if x4 < (x0.length : Int) then ((self23  (T1 (rd x0 x4))).bind fun t1 => if 0 ≤ x4 then (if x4 < (b1000003.length : Int) then (if x4.toNat < b1000003.length then (J x0 (W (x4 + 1)) (b1000003.set x4.toNat (T1 t1))) else none) else none) else none) else none) else none) else (some (((), ()), (b1000003, ())))
noncomputable def laws_toSolidS.l3 (k : Nat) (self23 : Tree → Option Tree) (self68 : (List Tree) → Option (List Tree)) : Nat → (List Tree) → Int → (List Tree) → Option laws_toSolidS.B3
  | 0, _, _, _ => none
  | n + 1, x0, x4, b1000003 => laws_toSolidS.s3 k self23 self68 (laws_toSolidS.l3 k self23 self68 n) x0 x4 b1000003
noncomputable def laws_toSolidS.fs (k : Nat) (self23 : Tree → Option Tree) (self68 : (List Tree) → Option (List Tree)) (a0 : List Tree) : Option (List Tree) :=
  if 0 ≤ (a0.length : Int) then (if lt47 ((a0.length : Int)).toNat = true then ((laws_toSolidS.l3 k self23 self68 k a0 0 (List.replicate (a0.length : Int).toNat default : List Tree)).bind fun x2 => some x2.2.1) else none) else none
noncomputable def laws_toSolid.fs (k : Nat) (self23 : Tree → Option Tree) (self68 : (List Tree) → Option (List Tree)) (a0 : Tree) : Option Tree :=
  (laws_toPlane.f k  a0.p).bind fun t1 => (self68  a0.kids).bind fun t2 => some (Tree.mk a0.inn t1 t2)
mutual
noncomputable def laws_toSolidS.f : Nat → (List Tree) → Option (List Tree)
  | 0, _ => none
  | k + 1, a0 => laws_toSolidS.fs k (laws_toSolid.f k) (laws_toSolidS.f k) a0
noncomputable def laws_toSolid.f : Nat → Tree → Option Tree
  | 0, _ => none
  | k + 1, a0 => laws_toSolid.fs k (laws_toSolid.f k) (laws_toSolidS.f k) a0
end
theorem laws_toSolidS.fS (k : Nat) (a0 : List Tree) : laws_toSolidS.f (k + 1) a0 = laws_toSolidS.fs k (laws_toSolid.f k) (laws_toSolidS.f k) a0 := by first | rfl | rw [laws_toSolidS.f]
theorem laws_toSolid.fS (k : Nat) (a0 : Tree) : laws_toSolid.f (k + 1) a0 = laws_toSolid.fs k (laws_toSolid.f k) (laws_toSolidS.f k) a0 := by first | rfl | rw [laws_toSolid.f]
noncomputable def laws_toSolidS.e (k : Nat) : FE := { α := (List Tree) × Unit, β := List Tree, args := (lCons (aSl .tree) lNil), ret := (rOwn 27 .tree), f := fun p => laws_toSolidS.f k p.1 }
noncomputable def laws_toSolid.e (k : Nat) : FE := { α := Tree × Unit, β := Tree, args := (lCons aTree lNil), ret := (rOne aTree), f := fun p => laws_toSolid.f k p.1 }
noncomputable def laws_toSolidS.c (k : Nat) : List (Nat × CE) := [(23, .fn (laws_toSolid.e k))]
noncomputable def laws_toSolidS.bd : Code := match Try.f68.body with | some c => c | none => .skip
noncomputable def laws_toSolidS.e3 (k : Nat) : LE := { H := laws_toSolidS.H3, α := laws_toSolidS.A3, β := laws_toSolidS.B3, st := laws_toSolidS.Z3, xt := laws_toSolidS.X3, f := fun p => laws_toSolidS.l3 k (laws_toSolid.f k) (laws_toSolidS.f k) k p.1.1 p.1.2.2.1 p.2.1 }
noncomputable def laws_toSolidS.g (k : Nat) : List (Nat × LE) := [(3, laws_toSolidS.e3 k)]
theorem laws_toSolidS.t3 (k : Nat) (I : S2 → Option laws_toSolidS.B3) (x0 : List Tree) (x4 : Int) (b1000003 : List Tree) : stepOf (mkCx Try.prog (laws_toSolidS.c k) (laws_toSolidS.g k) : Cx laws_toSolidS.B3) (loopAt laws_toSolidS.bd 0) laws_toSolidS.H3 laws_toSolidS.X3.dec I (laws_toSolidS.Z3.enc ((x0, (), x4, ()), (b1000003, ()))) = laws_toSolidS.s3 k (laws_toSolid.f k) (laws_toSolidS.f k) (fun x0 x4 b1000003 => I (laws_toSolidS.Z3.enc ((x0, (), x4, ()), (b1000003, ())))) x0 x4 b1000003 := by kernel_rfl
theorem laws_toSolidS.i3 (k : Nat) : ∀ (n : Nat) (x0 : List Tree) (x4 : Int) (b1000003 : List Tree), iter (evCode (mkCx Try.prog (laws_toSolidS.c k) (laws_toSolidS.g k) : Cx laws_toSolidS.B3) (loopAt laws_toSolidS.bd 0)) laws_toSolidS.H3 laws_toSolidS.X3.dec n (laws_toSolidS.Z3.enc ((x0, (), x4, ()), (b1000003, ()))) = laws_toSolidS.l3 k (laws_toSolid.f k) (laws_toSolidS.f k) n x0 x4 b1000003
  | 0, _, _, _ => rfl
  | n + 1, x0, x4, b1000003 => ((iter_step _ _ _ _ n _).trans (laws_toSolidS.t3 k _ x0 x4 b1000003)).trans (congrArg (fun J => laws_toSolidS.s3 k (laws_toSolid.f k) (laws_toSolidS.f k) J x0 x4 b1000003) (funext fun x0 => funext fun x4 => funext fun b1000003 => laws_toSolidS.i3 k n x0 x4 b1000003))
theorem laws_toSolidS.to3 (k : Nat) (hC : AllFun Try.prog (laws_toSolidS.c k)) : LoopTo Try.prog 23 (laws_toSolidS.e3 k) (loopAt laws_toSolidS.bd 0) := loop_to mixed hC (by kernel_rfl) (loops_all 0 (by kernel_rfl) fun i hi => absurd hi (Nat.not_lt_zero i)) fun a b h => ⟨k, (laws_toSolidS.i3 k k a.1.1 a.1.2.2.1 a.2.1).trans h⟩
theorem laws_toSolidS.link (k : Nat) (a0 : List Tree) : evFun (mkCx Try.prog (laws_toSolidS.c k) (laws_toSolidS.g k) : Cx (List Tree)) Try.f68 ((laws_toSolidS.e (k + 1)).args.enc (a0, ())) (laws_toSolidS.e (k + 1)).ret.dec = laws_toSolidS.fs k (laws_toSolid.f k) (laws_toSolidS.f k) a0 := by kernel_rfl
theorem laws_toSolidS.ok1 (k : Nat) (hC : AllFun Try.prog (laws_toSolidS.c k)) : Fun Try.prog 68 (laws_toSolidS.e (k + 1)).G := fun_ok mixed (body := laws_toSolidS.bd) Try.func68 (by kernel_rfl) (by kernel_rfl) (by kernel_rfl) hC (loops_all 1 (by kernel_rfl) fun i hi => by obtain rfl : i = 0 := Nat.lt_one_iff.1 hi; exact ⟨laws_toSolidS.e3 k, by kernel_rfl, laws_toSolidS.to3 k hC⟩) (laws_toSolidS.e (k + 1)) (fun a => Nat.le_of_ble_eq_true (by kernel_rfl)) fun a b h => (laws_toSolidS.link k a.1).trans ((laws_toSolidS.fS k a.1).symm.trans h)
noncomputable def laws_toSolid.c (k : Nat) : List (Nat × CE) := [(16, .fn (laws_toPlane.e k)), (68, .fn (laws_toSolidS.e k))]
noncomputable def laws_toSolid.bd : Code := match Try.f23.body with | some c => c | none => .skip
noncomputable def laws_toSolid.g (k : Nat) : List (Nat × LE) := []
theorem laws_toSolid.link (k : Nat) (a0 : Tree) : evFun (mkCx Try.prog (laws_toSolid.c k) (laws_toSolid.g k) : Cx Tree) Try.f23 ((laws_toSolid.e (k + 1)).args.enc (a0, ())) (laws_toSolid.e (k + 1)).ret.dec = laws_toSolid.fs k (laws_toSolid.f k) (laws_toSolidS.f k) a0 := by kernel_rfl
theorem laws_toSolid.ok1 (k : Nat) (hC : AllFun Try.prog (laws_toSolid.c k)) : Fun Try.prog 23 (laws_toSolid.e (k + 1)).G := fun_ok mixed (body := laws_toSolid.bd) Try.func23 (by kernel_rfl) (by kernel_rfl) (by kernel_rfl) hC (loops_all 0 (by kernel_rfl) fun i hi => absurd hi (Nat.not_lt_zero i)) (laws_toSolid.e (k + 1)) (fun a => Nat.le_of_ble_eq_true (by kernel_rfl)) fun a b h => (laws_toSolid.link k a.1).trans ((laws_toSolid.fS k a.1).symm.trans h)
theorem laws_toSolidS.okk : ∀ k, Fun Try.prog 68 (laws_toSolidS.e k).G ∧ Fun Try.prog 23 (laws_toSolid.e k).G
  | 0 => ⟨fun_zero (by kernel_rfl) fun _ => rfl, fun_zero (by kernel_rfl) fun _ => rfl⟩
  | k + 1 => have h := laws_toSolidS.okk k; ⟨laws_toSolidS.ok1 k ⟨h.2, trivial⟩, laws_toSolid.ok1 k ⟨laws_toPlane.ok k, h.1, trivial⟩⟩
theorem laws_toSolidS.ok (k : Nat) : Fun Try.prog 68 (laws_toSolidS.e k).G := (laws_toSolidS.okk k).1
theorem laws_toSolid.ok (k : Nat) : Fun Try.prog 23 (laws_toSolid.e k).G := (laws_toSolidS.okk k).2

noncomputable def spec_l8Leaf.f (k : Nat) (a0 : Tree) : Option Bool :=
  some ((a0.kids.length : Int) == 0)
noncomputable def spec_l8Leaf.e (k : Nat) : FE := { α := Tree × Unit, β := Bool, args := (lCons aTree lNil), ret := (rOne aB), f := fun p => spec_l8Leaf.f k p.1 }
noncomputable def spec_l8Leaf.c (k : Nat) : List (Nat × CE) := []
noncomputable def spec_l8Leaf.bd : Code := match Try.f103.body with | some c => c | none => .skip
noncomputable def spec_l8Leaf.g (k : Nat) : List (Nat × LE) := []
theorem spec_l8Leaf.link (k : Nat) (a0 : Tree) : evFun (mkCx Try.prog (spec_l8Leaf.c k) (spec_l8Leaf.g k) : Cx Bool) Try.f103 ((spec_l8Leaf.e k).args.enc (a0, ())) (spec_l8Leaf.e k).ret.dec = spec_l8Leaf.f k a0 := by kernel_rfl
theorem spec_l8Leaf.ok1 (k : Nat) (hC : AllFun Try.prog (spec_l8Leaf.c k)) : Fun Try.prog 103 (spec_l8Leaf.e k).G := fun_ok mixed (body := spec_l8Leaf.bd) Try.func103 (by kernel_rfl) (by kernel_rfl) (by kernel_rfl) hC (loops_all 0 (by kernel_rfl) fun i hi => absurd hi (Nat.not_lt_zero i)) (spec_l8Leaf.e k) (fun a => Nat.le_of_ble_eq_true (by kernel_rfl)) fun a b h => (spec_l8Leaf.link k a.1).trans h
theorem spec_l8Leaf.ok (k : Nat) : Fun Try.prog 103 (spec_l8Leaf.e k).G := spec_l8Leaf.ok1 k trivial

noncomputable def spec_l8Count.H5 : Hd := ⟨[], [1, 2, 5, 6], [2]⟩
@[reducible] def spec_l8Count.A5 : Type := ((Int × Unit × Int × Int × Unit) × (Tree × Unit))
noncomputable def spec_l8Count.Z5 : SC spec_l8Count.A5 := sC spec_l8Count.H5 (eCons 1 (tP (aI .i64)) (eCons 2 (tRef 2 0) (eCons 5 (tP (aI .i64)) (eCons 6 (tP (aI .i64)) eNil)))) (bCons 2 (xVr cTree) bNil)
@[reducible] def spec_l8Count.B5 : Type := ((Int × Unit) × (Unit))
noncomputable def spec_l8Count.X5 : XC spec_l8Count.B5 := xExit 0 (sC ⟨[], [5], []⟩ (eCons 5 (tP (aI .i64)) eNil) bNil)
noncomputable def spec_l8Count.s5 (k : Nat) (self70 : Tree → Int → Option Int) (J : Int → Int → Int → Tree → Option spec_l8Count.B5) (x1 : Int) (x5 : Int) (x6 : Int) (b2 : Tree) : Option spec_l8Count.B5 :=
  if (decide (x6 < (b2.kids.length : Int))) = true then (if 0 ≤ x6 then (if x6 < (b2.kids.length : Int) then ((self70  (T1 (rd b2.kids x6)) (W (x1 - x5))).bind fun t2 => J x1 (W (x5 + t2)) (W (x6 + 1)) (T1 b2)) else none) else none) else (some ((x5, ()), (())))
noncomputable def spec_l8Count.l5 (k : Nat) (self70 : Tree → Int → Option Int) : Nat → Int → Int → Int → Tree → Option spec_l8Count.B5
  | 0, _, _, _, _ => none
  | n + 1, x1, x5, x6, b2 => spec_l8Count.s5 k self70 (spec_l8Count.l5 k self70 n) x1 x5 x6 b2
noncomputable def spec_l8Count.fs (k : Nat) (self70 : Tree → Int → Option Int) (a0 : Tree) (a1 : Int) : Option Int :=
  (spec_l8Leaf.f k  (T1 a0)).bind fun t1 => if t1 = true then (some 0) else (if (decide (a1 ≤ 0)) = true then (some 0) else ((spec_l8Count.l5 k self70 k a1 1 0 (T1 a0)).bind fun x3 => some x3.1.1))
noncomputable def spec_l8Count.f : Nat → Tree → Int → Option Int
  | 0, _, _ => none
  | k + 1, a0, a1 => spec_l8Count.fs k (spec_l8Count.f k) a0 a1
theorem spec_l8Count.fS (k : Nat) (a0 : Tree) (a1 : Int) : spec_l8Count.f (k + 1) a0 a1 = spec_l8Count.fs k (spec_l8Count.f k) a0 a1 := by first | rfl | rw [spec_l8Count.f]
noncomputable def spec_l8Count.e (k : Nat) : FE := { α := Tree × Int × Unit, β := Int, args := (lCons aTree (lCons (aI .i64) lNil)), ret := (rOne (aI .i64)), f := fun p => spec_l8Count.f k p.1 p.2.1 }
noncomputable def spec_l8Count.c (k : Nat) : List (Nat × CE) := [(103, .fn (spec_l8Leaf.e k)), (70, .fn (spec_l8Count.e k))]
noncomputable def spec_l8Count.bd : Code := match Try.f70.body with | some c => c | none => .skip
noncomputable def spec_l8Count.e5 (k : Nat) : LE := { H := spec_l8Count.H5, α := spec_l8Count.A5, β := spec_l8Count.B5, st := spec_l8Count.Z5, xt := spec_l8Count.X5, f := fun p => spec_l8Count.l5 k (spec_l8Count.f k) k p.1.1 p.1.2.2.1 p.1.2.2.2.1 p.2.1 }
noncomputable def spec_l8Count.g (k : Nat) : List (Nat × LE) := [(5, spec_l8Count.e5 k)]
theorem spec_l8Count.t5 (k : Nat) (I : S2 → Option spec_l8Count.B5) (x1 : Int) (x5 : Int) (x6 : Int) (b2 : Tree) : stepOf (mkCx Try.prog (spec_l8Count.c k) (spec_l8Count.g k) : Cx spec_l8Count.B5) (loopAt spec_l8Count.bd 0) spec_l8Count.H5 spec_l8Count.X5.dec I (spec_l8Count.Z5.enc ((x1, (), x5, x6, ()), (b2, ()))) = spec_l8Count.s5 k (spec_l8Count.f k) (fun x1 x5 x6 b2 => I (spec_l8Count.Z5.enc ((x1, (), x5, x6, ()), (b2, ())))) x1 x5 x6 b2 := by kernel_rfl
theorem spec_l8Count.i5 (k : Nat) : ∀ (n : Nat) (x1 : Int) (x5 : Int) (x6 : Int) (b2 : Tree), iter (evCode (mkCx Try.prog (spec_l8Count.c k) (spec_l8Count.g k) : Cx spec_l8Count.B5) (loopAt spec_l8Count.bd 0)) spec_l8Count.H5 spec_l8Count.X5.dec n (spec_l8Count.Z5.enc ((x1, (), x5, x6, ()), (b2, ()))) = spec_l8Count.l5 k (spec_l8Count.f k) n x1 x5 x6 b2
  | 0, _, _, _, _ => rfl
  | n + 1, x1, x5, x6, b2 => ((iter_step _ _ _ _ n _).trans (spec_l8Count.t5 k _ x1 x5 x6 b2)).trans (congrArg (fun J => spec_l8Count.s5 k (spec_l8Count.f k) J x1 x5 x6 b2) (funext fun x1 => funext fun x5 => funext fun x6 => funext fun b2 => spec_l8Count.i5 k n x1 x5 x6 b2))
theorem spec_l8Count.to5 (k : Nat) (hC : AllFun Try.prog (spec_l8Count.c k)) : LoopTo Try.prog 32 (spec_l8Count.e5 k) (loopAt spec_l8Count.bd 0) := loop_to mixed hC (by kernel_rfl) (loops_all 0 (by kernel_rfl) fun i hi => absurd hi (Nat.not_lt_zero i)) fun a b h => ⟨k, (spec_l8Count.i5 k k a.1.1 a.1.2.2.1 a.1.2.2.2.1 a.2.1).trans h⟩
theorem spec_l8Count.link (k : Nat) (a0 : Tree) (a1 : Int) : evFun (mkCx Try.prog (spec_l8Count.c k) (spec_l8Count.g k) : Cx Int) Try.f70 ((spec_l8Count.e (k + 1)).args.enc (a0, a1, ())) (spec_l8Count.e (k + 1)).ret.dec = spec_l8Count.fs k (spec_l8Count.f k) a0 a1 := by kernel_rfl
theorem spec_l8Count.ok1 (k : Nat) (hC : AllFun Try.prog (spec_l8Count.c k)) : Fun Try.prog 70 (spec_l8Count.e (k + 1)).G := fun_ok mixed (body := spec_l8Count.bd) Try.func70 (by kernel_rfl) (by kernel_rfl) (by kernel_rfl) hC (loops_all 1 (by kernel_rfl) fun i hi => by obtain rfl : i = 0 := Nat.lt_one_iff.1 hi; exact ⟨spec_l8Count.e5 k, by kernel_rfl, spec_l8Count.to5 k hC⟩) (spec_l8Count.e (k + 1)) (fun a => Nat.le_of_ble_eq_true (by kernel_rfl)) fun a b h => (spec_l8Count.link k a.1 a.2.1).trans ((spec_l8Count.fS k a.1 a.2.1).symm.trans h)
theorem spec_l8Count.ok : ∀ k, Fun Try.prog 70 (spec_l8Count.e k).G
  | 0 => fun_zero (by kernel_rfl) fun _ => rfl
  | k + 1 => spec_l8Count.ok1 k ⟨spec_l8Leaf.ok k, spec_l8Count.ok k, trivial⟩

noncomputable def spec_l1In.f (k : Nat) (a0 : Int) (a1 : Int) (a2 : Int) : Option Bool :=
  if (decide (a0 ≥ a1)) = true then (some (decide (a0 ≤ a2))) else (some false)
noncomputable def spec_l1In.e (k : Nat) : FE := { α := Int × Int × Int × Unit, β := Bool, args := (lCons (aI .i64) (lCons (aI .i64) (lCons (aI .i64) lNil))), ret := (rOne aB), f := fun p => spec_l1In.f k p.1 p.2.1 p.2.2.1 }
noncomputable def spec_l1In.c (k : Nat) : List (Nat × CE) := []
noncomputable def spec_l1In.bd : Code := match Try.f112.body with | some c => c | none => .skip
noncomputable def spec_l1In.g (k : Nat) : List (Nat × LE) := []
theorem spec_l1In.link (k : Nat) (a0 : Int) (a1 : Int) (a2 : Int) : evFun (mkCx Try.prog (spec_l1In.c k) (spec_l1In.g k) : Cx Bool) Try.f112 ((spec_l1In.e k).args.enc (a0, a1, a2, ())) (spec_l1In.e k).ret.dec = spec_l1In.f k a0 a1 a2 := by kernel_rfl
theorem spec_l1In.ok1 (k : Nat) (hC : AllFun Try.prog (spec_l1In.c k)) : Fun Try.prog 112 (spec_l1In.e k).G := fun_ok mixed (body := spec_l1In.bd) Try.func112 (by kernel_rfl) (by kernel_rfl) (by kernel_rfl) hC (loops_all 0 (by kernel_rfl) fun i hi => absurd hi (Nat.not_lt_zero i)) (spec_l1In.e k) (fun a => Nat.le_of_ble_eq_true (by kernel_rfl)) fun a b h => (spec_l1In.link k a.1 a.2.1 a.2.2.1).trans h
theorem spec_l1In.ok (k : Nat) : Fun Try.prog 112 (spec_l1In.e k).G := spec_l1In.ok1 k trivial

noncomputable def spec_l3In.f (k : Nat) (a0 : S4) : Option Bool :=
  (spec_l1In.f k  a0.a (W (0 - 500)) 500).bind fun t1 => if t1 = true then ((spec_l1In.f k  a0.b (W (0 - 500)) 500).bind fun t2 => if t2 = true then ((spec_l1In.f k  a0.c (W (0 - 500)) 500).bind fun t3 => if t3 = true then ((spec_l1In.f k  a0.d (W (0 - 500)) 500).bind fun t4 => some t4) else (some false)) else (some false)) else (some false)
noncomputable def spec_l3In.e (k : Nat) : FE := { α := S4 × Unit, β := Bool, args := (lCons aS4 lNil), ret := (rOne aB), f := fun p => spec_l3In.f k p.1 }
noncomputable def spec_l3In.c (k : Nat) : List (Nat × CE) := [(112, .fn (spec_l1In.e k))]
noncomputable def spec_l3In.bd : Code := match Try.f99.body with | some c => c | none => .skip
noncomputable def spec_l3In.g (k : Nat) : List (Nat × LE) := []
theorem spec_l3In.link (k : Nat) (a0 : S4) : evFun (mkCx Try.prog (spec_l3In.c k) (spec_l3In.g k) : Cx Bool) Try.f99 ((spec_l3In.e k).args.enc (a0, ())) (spec_l3In.e k).ret.dec = spec_l3In.f k a0 := by kernel_rfl
theorem spec_l3In.ok1 (k : Nat) (hC : AllFun Try.prog (spec_l3In.c k)) : Fun Try.prog 99 (spec_l3In.e k).G := fun_ok mixed (body := spec_l3In.bd) Try.func99 (by kernel_rfl) (by kernel_rfl) (by kernel_rfl) hC (loops_all 0 (by kernel_rfl) fun i hi => absurd hi (Nat.not_lt_zero i)) (spec_l3In.e k) (fun a => Nat.le_of_ble_eq_true (by kernel_rfl)) fun a b h => (spec_l3In.link k a.1).trans h
theorem spec_l3In.ok (k : Nat) : Fun Try.prog 99 (spec_l3In.e k).G := spec_l3In.ok1 k ⟨spec_l1In.ok k, trivial⟩

noncomputable def spec_l3Abs.f (k : Nat) (a0 : Int) : Option Int :=
  if (decide (a0 < 0)) = true then (some (W (0 - a0))) else (some a0)
noncomputable def spec_l3Abs.e (k : Nat) : FE := { α := Int × Unit, β := Int, args := (lCons (aI .i64) lNil), ret := (rOne (aI .i64)), f := fun p => spec_l3Abs.f k p.1 }
noncomputable def spec_l3Abs.c (k : Nat) : List (Nat × CE) := []
noncomputable def spec_l3Abs.bd : Code := match Try.f119.body with | some c => c | none => .skip
noncomputable def spec_l3Abs.g (k : Nat) : List (Nat × LE) := []
theorem spec_l3Abs.link (k : Nat) (a0 : Int) : evFun (mkCx Try.prog (spec_l3Abs.c k) (spec_l3Abs.g k) : Cx Int) Try.f119 ((spec_l3Abs.e k).args.enc (a0, ())) (spec_l3Abs.e k).ret.dec = spec_l3Abs.f k a0 := by kernel_rfl
theorem spec_l3Abs.ok1 (k : Nat) (hC : AllFun Try.prog (spec_l3Abs.c k)) : Fun Try.prog 119 (spec_l3Abs.e k).G := fun_ok mixed (body := spec_l3Abs.bd) Try.func119 (by kernel_rfl) (by kernel_rfl) (by kernel_rfl) hC (loops_all 0 (by kernel_rfl) fun i hi => absurd hi (Nat.not_lt_zero i)) (spec_l3Abs.e k) (fun a => Nat.le_of_ble_eq_true (by kernel_rfl)) fun a b h => (spec_l3Abs.link k a.1).trans h
theorem spec_l3Abs.ok (k : Nat) : Fun Try.prog 119 (spec_l3Abs.e k).G := spec_l3Abs.ok1 k trivial

noncomputable def spec_l3Gcd.H3 : Hd := ⟨[], [0, 1], []⟩
@[reducible] def spec_l3Gcd.A3 : Type := ((Int × Int × Unit) × (Unit))
noncomputable def spec_l3Gcd.Z3 : SC spec_l3Gcd.A3 := sC spec_l3Gcd.H3 (eCons 0 (tP (aI .i64)) (eCons 1 (tP (aI .i64)) eNil)) bNil
@[reducible] def spec_l3Gcd.B3 : Type := ((Int × Unit) × (Unit))
noncomputable def spec_l3Gcd.X3 : XC spec_l3Gcd.B3 := xExit 0 (sC ⟨[], [0], []⟩ (eCons 0 (tP (aI .i64)) eNil) bNil)
noncomputable def spec_l3Gcd.s3 (k : Nat)  (J : Int → Int → Option spec_l3Gcd.B3) (x0 : Int) (x1 : Int) : Option spec_l3Gcd.B3 :=
  if (decide (x1 > 0)) = true then (if x1 = 0 then none else (J x1 (x0.tmod x1))) else (some ((x0, ()), (())))
noncomputable def spec_l3Gcd.l3 (k : Nat)  : Nat → Int → Int → Option spec_l3Gcd.B3
  | 0, _, _ => none
  | n + 1, x0, x1 => spec_l3Gcd.s3 k (spec_l3Gcd.l3 k n) x0 x1
noncomputable def spec_l3Gcd.f (k : Nat) (a0 : Int) (a1 : Int) : Option Int :=
  (spec_l3Abs.f k  a0).bind fun t1 => (spec_l3Abs.f k  a1).bind fun t2 => (spec_l3Gcd.l3 k k t1 t2).bind fun x3 => some x3.1.1
noncomputable def spec_l3Gcd.e (k : Nat) : FE := { α := Int × Int × Unit, β := Int, args := (lCons (aI .i64) (lCons (aI .i64) lNil)), ret := (rOne (aI .i64)), f := fun p => spec_l3Gcd.f k p.1 p.2.1 }
noncomputable def spec_l3Gcd.c (k : Nat) : List (Nat × CE) := [(119, .fn (spec_l3Abs.e k))]
noncomputable def spec_l3Gcd.bd : Code := match Try.f100.body with | some c => c | none => .skip
noncomputable def spec_l3Gcd.e3 (k : Nat) : LE := { H := spec_l3Gcd.H3, α := spec_l3Gcd.A3, β := spec_l3Gcd.B3, st := spec_l3Gcd.Z3, xt := spec_l3Gcd.X3, f := fun p => spec_l3Gcd.l3 k k p.1.1 p.1.2.1 }
noncomputable def spec_l3Gcd.g (k : Nat) : List (Nat × LE) := [(3, spec_l3Gcd.e3 k)]
theorem spec_l3Gcd.t3 (k : Nat) (I : S2 → Option spec_l3Gcd.B3) (x0 : Int) (x1 : Int) : stepOf (mkCx Try.prog (spec_l3Gcd.c k) (spec_l3Gcd.g k) : Cx spec_l3Gcd.B3) (loopAt spec_l3Gcd.bd 0) spec_l3Gcd.H3 spec_l3Gcd.X3.dec I (spec_l3Gcd.Z3.enc ((x0, x1, ()), (()))) = spec_l3Gcd.s3 k (fun x0 x1 => I (spec_l3Gcd.Z3.enc ((x0, x1, ()), (())))) x0 x1 := by kernel_rfl
theorem spec_l3Gcd.i3 (k : Nat) : ∀ (n : Nat) (x0 : Int) (x1 : Int), iter (evCode (mkCx Try.prog (spec_l3Gcd.c k) (spec_l3Gcd.g k) : Cx spec_l3Gcd.B3) (loopAt spec_l3Gcd.bd 0)) spec_l3Gcd.H3 spec_l3Gcd.X3.dec n (spec_l3Gcd.Z3.enc ((x0, x1, ()), (()))) = spec_l3Gcd.l3 k n x0 x1
  | 0, _, _ => rfl
  | n + 1, x0, x1 => ((iter_step _ _ _ _ n _).trans (spec_l3Gcd.t3 k _ x0 x1)).trans (congrArg (fun J => spec_l3Gcd.s3 k J x0 x1) (funext fun x0 => funext fun x1 => spec_l3Gcd.i3 k n x0 x1))
theorem spec_l3Gcd.to3 (k : Nat) (hC : AllFun Try.prog (spec_l3Gcd.c k)) : LoopTo Try.prog 18 (spec_l3Gcd.e3 k) (loopAt spec_l3Gcd.bd 0) := loop_to mixed hC (by kernel_rfl) (loops_all 0 (by kernel_rfl) fun i hi => absurd hi (Nat.not_lt_zero i)) fun a b h => ⟨k, (spec_l3Gcd.i3 k k a.1.1 a.1.2.1).trans h⟩
theorem spec_l3Gcd.link (k : Nat) (a0 : Int) (a1 : Int) : evFun (mkCx Try.prog (spec_l3Gcd.c k) (spec_l3Gcd.g k) : Cx Int) Try.f100 ((spec_l3Gcd.e k).args.enc (a0, a1, ())) (spec_l3Gcd.e k).ret.dec = spec_l3Gcd.f k a0 a1 := by kernel_rfl
theorem spec_l3Gcd.ok1 (k : Nat) (hC : AllFun Try.prog (spec_l3Gcd.c k)) : Fun Try.prog 100 (spec_l3Gcd.e k).G := fun_ok mixed (body := spec_l3Gcd.bd) Try.func100 (by kernel_rfl) (by kernel_rfl) (by kernel_rfl) hC (loops_all 1 (by kernel_rfl) fun i hi => by obtain rfl : i = 0 := Nat.lt_one_iff.1 hi; exact ⟨spec_l3Gcd.e3 k, by kernel_rfl, spec_l3Gcd.to3 k hC⟩) (spec_l3Gcd.e k) (fun a => Nat.le_of_ble_eq_true (by kernel_rfl)) fun a b h => (spec_l3Gcd.link k a.1 a.2.1).trans h
theorem spec_l3Gcd.ok (k : Nat) : Fun Try.prog 100 (spec_l3Gcd.e k).G := spec_l3Gcd.ok1 k ⟨spec_l3Abs.ok k, trivial⟩

noncomputable def spec_PlaneOk.f (k : Nat) (a0 : S4) : Option Bool :=
  (spec_l3In.f k  a0).bind fun t1 => if t1 = true then (if (a0.a != 0) = true then ((spec_l3Gcd.f k  a0.a a0.b).bind fun t2 => (spec_l3Gcd.f k  a0.c a0.d).bind fun t3 => (spec_l3Gcd.f k  t2 t3).bind fun t4 => some (t4 == 1)) else (if (a0.b != 0) = true then ((spec_l3Gcd.f k  a0.a a0.b).bind fun t5 => (spec_l3Gcd.f k  a0.c a0.d).bind fun t6 => (spec_l3Gcd.f k  t5 t6).bind fun t7 => some (t7 == 1)) else (if (a0.c != 0) = true then ((spec_l3Gcd.f k  a0.a a0.b).bind fun t8 => (spec_l3Gcd.f k  a0.c a0.d).bind fun t9 => (spec_l3Gcd.f k  t8 t9).bind fun t10 => some (t10 == 1)) else (some false)))) else (some false)
noncomputable def spec_PlaneOk.e (k : Nat) : FE := { α := S4 × Unit, β := Bool, args := (lCons aS4 lNil), ret := (rOne aB), f := fun p => spec_PlaneOk.f k p.1 }
noncomputable def spec_PlaneOk.c (k : Nat) : List (Nat × CE) := [(99, .fn (spec_l3In.e k)), (100, .fn (spec_l3Gcd.e k))]
noncomputable def spec_PlaneOk.bd : Code := match Try.f57.body with | some c => c | none => .skip
noncomputable def spec_PlaneOk.g (k : Nat) : List (Nat × LE) := []
theorem spec_PlaneOk.link (k : Nat) (a0 : S4) : evFun (mkCx Try.prog (spec_PlaneOk.c k) (spec_PlaneOk.g k) : Cx Bool) Try.f57 ((spec_PlaneOk.e k).args.enc (a0, ())) (spec_PlaneOk.e k).ret.dec = spec_PlaneOk.f k a0 := by kernel_rfl
theorem spec_PlaneOk.ok1 (k : Nat) (hC : AllFun Try.prog (spec_PlaneOk.c k)) : Fun Try.prog 57 (spec_PlaneOk.e k).G := fun_ok mixed (body := spec_PlaneOk.bd) Try.func57 (by kernel_rfl) (by kernel_rfl) (by kernel_rfl) hC (loops_all 0 (by kernel_rfl) fun i hi => absurd hi (Nat.not_lt_zero i)) (spec_PlaneOk.e k) (fun a => Nat.le_of_ble_eq_true (by kernel_rfl)) fun a b h => (spec_PlaneOk.link k a.1).trans h
theorem spec_PlaneOk.ok (k : Nat) : Fun Try.prog 57 (spec_PlaneOk.e k).G := spec_PlaneOk.ok1 k ⟨spec_l3In.ok k, spec_l3Gcd.ok k, trivial⟩

noncomputable def spec_l8Path.f (k : Nat) (a0 : List S4) (a1 : S4) : Option (List S4) :=
  if lt47 (([] : List S4).length + a0.length) = true then (if lt47 ((([] : List S4) ++ a0).length + ([a1] : List S4).length) = true then (some ((([] : List S4) ++ a0) ++ ([a1] : List S4))) else none) else none
noncomputable def spec_l8Path.e (k : Nat) : FE := { α := (List S4) × S4 × Unit, β := List S4, args := (lCons (aSl .s4) (lCons aS4 lNil)), ret := (rOwn 24 .s4), f := fun p => spec_l8Path.f k p.1 p.2.1 }
noncomputable def spec_l8Path.c (k : Nat) : List (Nat × CE) := []
noncomputable def spec_l8Path.bd : Code := match Try.f94.body with | some c => c | none => .skip
noncomputable def spec_l8Path.g (k : Nat) : List (Nat × LE) := []
theorem spec_l8Path.link (k : Nat) (a0 : List S4) (a1 : S4) : evFun (mkCx Try.prog (spec_l8Path.c k) (spec_l8Path.g k) : Cx (List S4)) Try.f94 ((spec_l8Path.e k).args.enc (a0, a1, ())) (spec_l8Path.e k).ret.dec = spec_l8Path.f k a0 a1 := by kernel_rfl
theorem spec_l8Path.ok1 (k : Nat) (hC : AllFun Try.prog (spec_l8Path.c k)) : Fun Try.prog 94 (spec_l8Path.e k).G := fun_ok mixed (body := spec_l8Path.bd) Try.func94 (by kernel_rfl) (by kernel_rfl) (by kernel_rfl) hC (loops_all 0 (by kernel_rfl) fun i hi => absurd hi (Nat.not_lt_zero i)) (spec_l8Path.e k) (fun a => Nat.le_of_ble_eq_true (by kernel_rfl)) fun a b h => (spec_l8Path.link k a.1 a.2.1).trans h
theorem spec_l8Path.ok (k : Nat) : Fun Try.prog 94 (spec_l8Path.e k).G := spec_l8Path.ok1 k trivial

noncomputable def spec_l3Sign.f (k : Nat) (a0 : Int) : Option Int :=
  if (decide (a0 > 0)) = true then (some 1) else (if (decide (a0 < 0)) = true then (some (-1)) else (some 0))
noncomputable def spec_l3Sign.e (k : Nat) : FE := { α := Int × Unit, β := Int, args := (lCons (aI .i64) lNil), ret := (rOne (aI .i64)), f := fun p => spec_l3Sign.f k p.1 }
noncomputable def spec_l3Sign.c (k : Nat) : List (Nat × CE) := []
noncomputable def spec_l3Sign.bd : Code := match Try.f130.body with | some c => c | none => .skip
noncomputable def spec_l3Sign.g (k : Nat) : List (Nat × LE) := []
theorem spec_l3Sign.link (k : Nat) (a0 : Int) : evFun (mkCx Try.prog (spec_l3Sign.c k) (spec_l3Sign.g k) : Cx Int) Try.f130 ((spec_l3Sign.e k).args.enc (a0, ())) (spec_l3Sign.e k).ret.dec = spec_l3Sign.f k a0 := by kernel_rfl
theorem spec_l3Sign.ok1 (k : Nat) (hC : AllFun Try.prog (spec_l3Sign.c k)) : Fun Try.prog 130 (spec_l3Sign.e k).G := fun_ok mixed (body := spec_l3Sign.bd) Try.func130 (by kernel_rfl) (by kernel_rfl) (by kernel_rfl) hC (loops_all 0 (by kernel_rfl) fun i hi => absurd hi (Nat.not_lt_zero i)) (spec_l3Sign.e k) (fun a => Nat.le_of_ble_eq_true (by kernel_rfl)) fun a b h => (spec_l3Sign.link k a.1).trans h
theorem spec_l3Sign.ok (k : Nat) : Fun Try.prog 130 (spec_l3Sign.e k).G := spec_l3Sign.ok1 k trivial

noncomputable def spec_l4Cross.f (k : Nat) (a0 : S4) (a1 : S4) : Option S3 :=
  some (⟨(W ((W (a0.b * a1.c)) - (W (a0.c * a1.b)))), (W ((W (a0.c * a1.a)) - (W (a0.a * a1.c)))), (W ((W (a0.a * a1.b)) - (W (a0.b * a1.a))))⟩ : S3)
noncomputable def spec_l4Cross.e (k : Nat) : FE := { α := S4 × S4 × Unit, β := S3, args := (lCons aS4 (lCons aS4 lNil)), ret := (rOne aS3), f := fun p => spec_l4Cross.f k p.1 p.2.1 }
noncomputable def spec_l4Cross.c (k : Nat) : List (Nat × CE) := []
noncomputable def spec_l4Cross.bd : Code := match Try.f134.body with | some c => c | none => .skip
noncomputable def spec_l4Cross.g (k : Nat) : List (Nat × LE) := []
theorem spec_l4Cross.link (k : Nat) (a0 : S4) (a1 : S4) : evFun (mkCx Try.prog (spec_l4Cross.c k) (spec_l4Cross.g k) : Cx S3) Try.f134 ((spec_l4Cross.e k).args.enc (a0, a1, ())) (spec_l4Cross.e k).ret.dec = spec_l4Cross.f k a0 a1 := by kernel_rfl
theorem spec_l4Cross.ok1 (k : Nat) (hC : AllFun Try.prog (spec_l4Cross.c k)) : Fun Try.prog 134 (spec_l4Cross.e k).G := fun_ok mixed (body := spec_l4Cross.bd) Try.func134 (by kernel_rfl) (by kernel_rfl) (by kernel_rfl) hC (loops_all 0 (by kernel_rfl) fun i hi => absurd hi (Nat.not_lt_zero i)) (spec_l4Cross.e k) (fun a => Nat.le_of_ble_eq_true (by kernel_rfl)) fun a b h => (spec_l4Cross.link k a.1 a.2.1).trans h
theorem spec_l4Cross.ok (k : Nat) : Fun Try.prog 134 (spec_l4Cross.e k).G := spec_l4Cross.ok1 k trivial

noncomputable def spec_l4Parallel.f (k : Nat) (a0 : S4) (a1 : S4) : Option Int :=
  (spec_l4Cross.f k  a0 a1).bind fun t1 => if (!((t1.x == 0) && ((t1.y == 0) && (t1.z == 0)))) = true then (some 0) else ((spec_l3Sign.f k  (W ((W ((W (a0.a * a1.a)) + (W (a0.b * a1.b)))) + (W (a0.c * a1.c))))).bind fun t2 => some t2)
noncomputable def spec_l4Parallel.e (k : Nat) : FE := { α := S4 × S4 × Unit, β := Int, args := (lCons aS4 (lCons aS4 lNil)), ret := (rOne (aI .i64)), f := fun p => spec_l4Parallel.f k p.1 p.2.1 }
noncomputable def spec_l4Parallel.c (k : Nat) : List (Nat × CE) := [(134, .fn (spec_l4Cross.e k)), (130, .fn (spec_l3Sign.e k))]
noncomputable def spec_l4Parallel.bd : Code := match Try.f132.body with | some c => c | none => .skip
noncomputable def spec_l4Parallel.g (k : Nat) : List (Nat × LE) := []
theorem spec_l4Parallel.link (k : Nat) (a0 : S4) (a1 : S4) : evFun (mkCx Try.prog (spec_l4Parallel.c k) (spec_l4Parallel.g k) : Cx Int) Try.f132 ((spec_l4Parallel.e k).args.enc (a0, a1, ())) (spec_l4Parallel.e k).ret.dec = spec_l4Parallel.f k a0 a1 := by kernel_rfl
theorem spec_l4Parallel.ok1 (k : Nat) (hC : AllFun Try.prog (spec_l4Parallel.c k)) : Fun Try.prog 132 (spec_l4Parallel.e k).G := fun_ok mixed (body := spec_l4Parallel.bd) Try.func132 (by kernel_rfl) (by kernel_rfl) (by kernel_rfl) hC (loops_all 0 (by kernel_rfl) fun i hi => absurd hi (Nat.not_lt_zero i)) (spec_l4Parallel.e k) (fun a => Nat.le_of_ble_eq_true (by kernel_rfl)) fun a b h => (spec_l4Parallel.link k a.1 a.2.1).trans h
theorem spec_l4Parallel.ok (k : Nat) : Fun Try.prog 132 (spec_l4Parallel.e k).G := spec_l4Parallel.ok1 k ⟨spec_l4Cross.ok k, spec_l3Sign.ok k, trivial⟩

noncomputable def spec_l6Clash2.f (k : Nat) (a0 : S4) (a1 : S4) : Option Bool :=
  (spec_l4Parallel.f k  a0 a1).bind fun t1 => if (decide (t1 ≥ 0)) = true then (some false) else ((spec_l3Abs.f k  a1.a).bind fun t2 => (spec_l3Abs.f k  a1.b).bind fun t3 => (spec_l3Abs.f k  a1.c).bind fun t4 => (spec_l3Abs.f k  a0.a).bind fun t5 => (spec_l3Abs.f k  a0.b).bind fun t6 => (spec_l3Abs.f k  a0.c).bind fun t7 => some (decide ((W ((W ((W ((W (t2 + t3)) + t4)) * a0.d)) + (W ((W ((W (t5 + t6)) + t7)) * a1.d)))) ≤ 0)))
noncomputable def spec_l6Clash2.e (k : Nat) : FE := { α := S4 × S4 × Unit, β := Bool, args := (lCons aS4 (lCons aS4 lNil)), ret := (rOne aB), f := fun p => spec_l6Clash2.f k p.1 p.2.1 }
noncomputable def spec_l6Clash2.c (k : Nat) : List (Nat × CE) := [(132, .fn (spec_l4Parallel.e k)), (119, .fn (spec_l3Abs.e k))]
noncomputable def spec_l6Clash2.bd : Code := match Try.f120.body with | some c => c | none => .skip
noncomputable def spec_l6Clash2.g (k : Nat) : List (Nat × LE) := []
theorem spec_l6Clash2.link (k : Nat) (a0 : S4) (a1 : S4) : evFun (mkCx Try.prog (spec_l6Clash2.c k) (spec_l6Clash2.g k) : Cx Bool) Try.f120 ((spec_l6Clash2.e k).args.enc (a0, a1, ())) (spec_l6Clash2.e k).ret.dec = spec_l6Clash2.f k a0 a1 := by kernel_rfl
theorem spec_l6Clash2.ok1 (k : Nat) (hC : AllFun Try.prog (spec_l6Clash2.c k)) : Fun Try.prog 120 (spec_l6Clash2.e k).G := fun_ok mixed (body := spec_l6Clash2.bd) Try.func120 (by kernel_rfl) (by kernel_rfl) (by kernel_rfl) hC (loops_all 0 (by kernel_rfl) fun i hi => absurd hi (Nat.not_lt_zero i)) (spec_l6Clash2.e k) (fun a => Nat.le_of_ble_eq_true (by kernel_rfl)) fun a b h => (spec_l6Clash2.link k a.1 a.2.1).trans h
theorem spec_l6Clash2.ok (k : Nat) : Fun Try.prog 120 (spec_l6Clash2.e k).G := spec_l6Clash2.ok1 k ⟨spec_l4Parallel.ok k, spec_l3Abs.ok k, trivial⟩

noncomputable def spec_l4Det3.f (k : Nat) (a0 : S4) (a1 : S4) (a2 : S4) : Option Int :=
  (spec_l4Cross.f k  a1 a2).bind fun t1 => some (W ((W ((W (a0.a * t1.x)) + (W (a0.b * t1.y)))) + (W (a0.c * t1.z))))
noncomputable def spec_l4Det3.e (k : Nat) : FE := { α := S4 × S4 × S4 × Unit, β := Int, args := (lCons aS4 (lCons aS4 (lCons aS4 lNil))), ret := (rOne (aI .i64)), f := fun p => spec_l4Det3.f k p.1 p.2.1 p.2.2.1 }
noncomputable def spec_l4Det3.c (k : Nat) : List (Nat × CE) := [(134, .fn (spec_l4Cross.e k))]
noncomputable def spec_l4Det3.bd : Code := match Try.f133.body with | some c => c | none => .skip
noncomputable def spec_l4Det3.g (k : Nat) : List (Nat × LE) := []
theorem spec_l4Det3.link (k : Nat) (a0 : S4) (a1 : S4) (a2 : S4) : evFun (mkCx Try.prog (spec_l4Det3.c k) (spec_l4Det3.g k) : Cx Int) Try.f133 ((spec_l4Det3.e k).args.enc (a0, a1, a2, ())) (spec_l4Det3.e k).ret.dec = spec_l4Det3.f k a0 a1 a2 := by kernel_rfl
theorem spec_l4Det3.ok1 (k : Nat) (hC : AllFun Try.prog (spec_l4Det3.c k)) : Fun Try.prog 133 (spec_l4Det3.e k).G := fun_ok mixed (body := spec_l4Det3.bd) Try.func133 (by kernel_rfl) (by kernel_rfl) (by kernel_rfl) hC (loops_all 0 (by kernel_rfl) fun i hi => absurd hi (Nat.not_lt_zero i)) (spec_l4Det3.e k) (fun a => Nat.le_of_ble_eq_true (by kernel_rfl)) fun a b h => (spec_l4Det3.link k a.1 a.2.1 a.2.2.1).trans h
theorem spec_l4Det3.ok (k : Nat) : Fun Try.prog 133 (spec_l4Det3.e k).G := spec_l4Det3.ok1 k ⟨spec_l4Cross.ok k, trivial⟩

noncomputable def spec_l6Sum.H5 : Hd := ⟨[], [0, 1, 5, 6, 7, 8], []⟩
@[reducible] def spec_l6Sum.A5 : Type := (((List Int) × (List Int) × Bool × Bool × Int × Int × Unit) × (Unit))
noncomputable def spec_l6Sum.Z5 : SC spec_l6Sum.A5 := sC spec_l6Sum.H5 (eCons 0 (tP (aSl (.i .i64))) (eCons 1 (tP (aSl (.i .i64))) (eCons 5 (tP aB) (eCons 6 (tP aB) (eCons 7 (tP (aI .i64)) (eCons 8 (tP (aI .i64)) eNil)))))) bNil
@[reducible] def spec_l6Sum.B5 : Type := ((Bool × Bool × Int × Unit) × (Unit))
noncomputable def spec_l6Sum.X5 : XC spec_l6Sum.B5 := xExit 0 (sC ⟨[], [5, 6, 7], []⟩ (eCons 5 (tP aB) (eCons 6 (tP aB) (eCons 7 (tP (aI .i64)) eNil))) bNil)
noncomputable def spec_l6Sum.s5 (k : Nat)  (J : (List Int) → (List Int) → Bool → Bool → Int → Int → Option spec_l6Sum.B5) (x0 : List Int) (x1 : List Int) (x5 : Bool) (x6 : Bool) (x7 : Int) (x8 : Int) : Option spec_l6Sum.B5 :=
  if (decide (x8 < (x0.length : Int))) = true then (if x5 = true then (if 0 ≤ x8 then (if x8 < (x0.length : Int) then (if x6 = true then (if 0 ≤ x8 then (if x8 < (x0.length : Int) then (if 0 ≤ x8 then (if x8 < (x0.length : Int) then ((spec_l3Abs.f k  (rd x0 x8)).bind fun t1 => if 0 ≤ x8 then (if x8 < (x1.length : Int) then (J x0 x1 (decide ((rd x0 x8) > 0)) (decide ((rd x0 x8) < 0)) (W (x7 + (W (t1 * (rd x1 x8))))) (W (x8 + 1))) else none) else none) else none) else none) else none) else none) else (if 0 ≤ x8 then (if x8 < (x0.length : Int) then ((spec_l3Abs.f k  (rd x0 x8)).bind fun t2 => if 0 ≤ x8 then (if x8 < (x1.length : Int) then (J x0 x1 (decide ((rd x0 x8) > 0)) false (W (x7 + (W (t2 * (rd x1 x8))))) (W (x8 + 1))) else none) else none) else none) else none)) else none) else none) else (if x6 = true then (if 0 ≤ x8 then (if x8 < (x0.length : Int) then (if 0 ≤ x8 then (if x8 < (x0.length : Int) then ((spec_l3Abs.f k  (rd x0 x8)).bind fun t3 => if 0 ≤ x8 then (if x8 < (x1.length : Int) then (J x0 x1 false (decide ((rd x0 x8) < 0)) (W (x7 + (W (t3 * (rd x1 x8))))) (W (x8 + 1))) else none) else none) else none) else none) else none) else none) else (if 0 ≤ x8 then (if x8 < (x0.length : Int) then ((spec_l3Abs.f k  (rd x0 x8)).bind fun t4 => if 0 ≤ x8 then (if x8 < (x1.length : Int) then (J x0 x1 false false (W (x7 + (W (t4 * (rd x1 x8))))) (W (x8 + 1))) else none) else none) else none) else none))) else (some ((x5, x6, x7, ()), (())))
noncomputable def spec_l6Sum.l5 (k : Nat)  : Nat → (List Int) → (List Int) → Bool → Bool → Int → Int → Option spec_l6Sum.B5
  | 0, _, _, _, _, _, _ => none
  | n + 1, x0, x1, x5, x6, x7, x8 => spec_l6Sum.s5 k (spec_l6Sum.l5 k n) x0 x1 x5 x6 x7 x8
noncomputable def spec_l6Sum.f (k : Nat) (a0 : List Int) (a1 : List Int) : Option Bool :=
  (spec_l6Sum.l5 k k a0 a1 true true 0 0).bind fun x5 => if x5.1.1 = true then (some (decide (x5.1.2.2.1 ≤ 0))) else (if x5.1.2.1 = true then (some (decide (x5.1.2.2.1 ≤ 0))) else (some false))
noncomputable def spec_l6Sum.e (k : Nat) : FE := { α := (List Int) × (List Int) × Unit, β := Bool, args := (lCons (aSl (.i .i64)) (lCons (aSl (.i .i64)) lNil)), ret := (rOne aB), f := fun p => spec_l6Sum.f k p.1 p.2.1 }
noncomputable def spec_l6Sum.c (k : Nat) : List (Nat × CE) := [(119, .fn (spec_l3Abs.e k))]
noncomputable def spec_l6Sum.bd : Code := match Try.f135.body with | some c => c | none => .skip
noncomputable def spec_l6Sum.e5 (k : Nat) : LE := { H := spec_l6Sum.H5, α := spec_l6Sum.A5, β := spec_l6Sum.B5, st := spec_l6Sum.Z5, xt := spec_l6Sum.X5, f := fun p => spec_l6Sum.l5 k k p.1.1 p.1.2.1 p.1.2.2.1 p.1.2.2.2.1 p.1.2.2.2.2.1 p.1.2.2.2.2.2.1 }
noncomputable def spec_l6Sum.g (k : Nat) : List (Nat × LE) := [(5, spec_l6Sum.e5 k)]
theorem spec_l6Sum.t5 (k : Nat) (I : S2 → Option spec_l6Sum.B5) (x0 : List Int) (x1 : List Int) (x5 : Bool) (x6 : Bool) (x7 : Int) (x8 : Int) : stepOf (mkCx Try.prog (spec_l6Sum.c k) (spec_l6Sum.g k) : Cx spec_l6Sum.B5) (loopAt spec_l6Sum.bd 0) spec_l6Sum.H5 spec_l6Sum.X5.dec I (spec_l6Sum.Z5.enc ((x0, x1, x5, x6, x7, x8, ()), (()))) = spec_l6Sum.s5 k (fun x0 x1 x5 x6 x7 x8 => I (spec_l6Sum.Z5.enc ((x0, x1, x5, x6, x7, x8, ()), (())))) x0 x1 x5 x6 x7 x8 := by kernel_rfl
theorem spec_l6Sum.i5 (k : Nat) : ∀ (n : Nat) (x0 : List Int) (x1 : List Int) (x5 : Bool) (x6 : Bool) (x7 : Int) (x8 : Int), iter (evCode (mkCx Try.prog (spec_l6Sum.c k) (spec_l6Sum.g k) : Cx spec_l6Sum.B5) (loopAt spec_l6Sum.bd 0)) spec_l6Sum.H5 spec_l6Sum.X5.dec n (spec_l6Sum.Z5.enc ((x0, x1, x5, x6, x7, x8, ()), (()))) = spec_l6Sum.l5 k n x0 x1 x5 x6 x7 x8
  | 0, _, _, _, _, _, _ => rfl
  | n + 1, x0, x1, x5, x6, x7, x8 => ((iter_step _ _ _ _ n _).trans (spec_l6Sum.t5 k _ x0 x1 x5 x6 x7 x8)).trans (congrArg (fun J => spec_l6Sum.s5 k J x0 x1 x5 x6 x7 x8) (funext fun x0 => funext fun x1 => funext fun x5 => funext fun x6 => funext fun x7 => funext fun x8 => spec_l6Sum.i5 k n x0 x1 x5 x6 x7 x8))
theorem spec_l6Sum.to5 (k : Nat) (hC : AllFun Try.prog (spec_l6Sum.c k)) : LoopTo Try.prog 51 (spec_l6Sum.e5 k) (loopAt spec_l6Sum.bd 0) := loop_to mixed hC (by kernel_rfl) (loops_all 0 (by kernel_rfl) fun i hi => absurd hi (Nat.not_lt_zero i)) fun a b h => ⟨k, (spec_l6Sum.i5 k k a.1.1 a.1.2.1 a.1.2.2.1 a.1.2.2.2.1 a.1.2.2.2.2.1 a.1.2.2.2.2.2.1).trans h⟩
theorem spec_l6Sum.link (k : Nat) (a0 : List Int) (a1 : List Int) : evFun (mkCx Try.prog (spec_l6Sum.c k) (spec_l6Sum.g k) : Cx Bool) Try.f135 ((spec_l6Sum.e k).args.enc (a0, a1, ())) (spec_l6Sum.e k).ret.dec = spec_l6Sum.f k a0 a1 := by kernel_rfl
theorem spec_l6Sum.ok1 (k : Nat) (hC : AllFun Try.prog (spec_l6Sum.c k)) : Fun Try.prog 135 (spec_l6Sum.e k).G := fun_ok mixed (body := spec_l6Sum.bd) Try.func135 (by kernel_rfl) (by kernel_rfl) (by kernel_rfl) hC (loops_all 1 (by kernel_rfl) fun i hi => by obtain rfl : i = 0 := Nat.lt_one_iff.1 hi; exact ⟨spec_l6Sum.e5 k, by kernel_rfl, spec_l6Sum.to5 k hC⟩) (spec_l6Sum.e k) (fun a => Nat.le_of_ble_eq_true (by kernel_rfl)) fun a b h => (spec_l6Sum.link k a.1 a.2.1).trans h
theorem spec_l6Sum.ok (k : Nat) : Fun Try.prog 135 (spec_l6Sum.e k).G := spec_l6Sum.ok1 k ⟨spec_l3Abs.ok k, trivial⟩

end Go.Proofs.Ytfgaeenlnkioaaa.G
