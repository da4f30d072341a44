/- Go functions told as plain Lean functions; that the code does what these tell. Printed by a program of the session (evp.py). -/
import Derived.Test.YtlkcpldohlemcaaEv16
import Derived.Test.YtlkcpldohlemcaaG6
namespace Go.Proofs.Ytlkcpldohlemcaa.G
open Go Go.RowKit Go.Proofs Go.Proofs.Ytlkcpldohlemcaa.Ev
set_option linter.unusedVariables false
set_option maxRecDepth 100000

noncomputable def laws_eqIntA2S.H4 : Hd := ⟨[], [0, 1, 5], [], []⟩
@[reducible] def laws_eqIntA2S.A4 : Type := (((List I2) × (List I2) × Int × Unit) × (Unit))
noncomputable def laws_eqIntA2S.Z4 : SC laws_eqIntA2S.A4 := sC laws_eqIntA2S.H4 (eCons 0 (tP (aSl .i2)) (eCons 1 (tP (aSl .i2)) (eCons 5 (tP (aI .i64)) eNil))) bNil
@[reducible] def laws_eqIntA2S.B4 : Type := ((Bool × Unit) × (Unit)) ⊕ ((Unit) × (Unit))
noncomputable def laws_eqIntA2S.X4 : XC laws_eqIntA2S.B4 := xOr (xRet (sC ⟨[], [4], [], []⟩ (eCons 4 (tP aB) eNil) bNil)) (xExit 0 (sC ⟨[], [], [], []⟩ eNil bNil))
noncomputable def laws_eqIntA2S.s4 (k : Nat)  (J : (List I2) → (List I2) → Int → Option laws_eqIntA2S.B4) (x0 : List I2) (x1 : List I2) (x5 : Int) : Option laws_eqIntA2S.B4 :=
  if (decide (x5 < (x0.length : Int))) = true then (if 0 ≤ x5 then (if x5 < (x0.length : Int) then (if 0 ≤ x5 then (if x5 < (x1.length : Int) then ((laws_eqIntA2.f k  (rd x0 x5) (rd x1 x5)).bind fun t1 => if (!t1) = true then (some (.inl ((false, ()), (())))) else (J x0 x1 (W (x5 + 1)))) else none) else none) else none) else none) else (some (.inr ((()), (()))))
noncomputable def laws_eqIntA2S.l4 (k : Nat)  : Nat → (List I2) → (List I2) → Int → Option laws_eqIntA2S.B4
  | 0, _, _, _ => none
  | n + 1, x0, x1, x5 => laws_eqIntA2S.s4 k (laws_eqIntA2S.l4 k n) x0 x1 x5
noncomputable def laws_eqIntA2S.f (k : Nat) (a0 : List I2) (a1 : List I2) : Option Bool :=
  if ((a0.length : Int) != (a1.length : Int)) = true then (some false) else ((laws_eqIntA2S.l4 k k a0 a1 0).bind fun | .inl r2 => (some r2.1.1) | .inr x3 => (some true))
noncomputable def laws_eqIntA2S.e (k : Nat) : FE := { α := (List I2) × (List I2) × Unit, β := Bool, args := (lCons (aSl .i2) (lCons (aSl .i2) lNil)), ret := (rOne aB), f := fun p => laws_eqIntA2S.f k p.1 p.2.1 }
noncomputable def laws_eqIntA2S.c (k : Nat) : List (Nat × CE) := [(119, .fn (laws_eqIntA2.e k))]
noncomputable def laws_eqIntA2S.bd : Code := match Try.f50.body with | some c => c | none => .skip
noncomputable def laws_eqIntA2S.e4 (k : Nat) : LE := { H := laws_eqIntA2S.H4, α := laws_eqIntA2S.A4, β := laws_eqIntA2S.B4, st := laws_eqIntA2S.Z4, xt := laws_eqIntA2S.X4, f := fun p => laws_eqIntA2S.l4 k k p.1.1 p.1.2.1 p.1.2.2.1 }
noncomputable def laws_eqIntA2S.g (k : Nat) : List (Nat × LE) := [(4, laws_eqIntA2S.e4 k)]
theorem laws_eqIntA2S.t4 (k : Nat) (I : S2 → Option laws_eqIntA2S.B4) (x0 : List I2) (x1 : List I2) (x5 : Int) : stepOf (mkCx Try.prog (laws_eqIntA2S.c k) (laws_eqIntA2S.g k) : Cx laws_eqIntA2S.B4) (loopAt laws_eqIntA2S.bd 0) laws_eqIntA2S.H4 laws_eqIntA2S.X4.dec I (laws_eqIntA2S.Z4.enc ((x0, x1, x5, ()), (()))) = laws_eqIntA2S.s4 k (fun x0 x1 x5 => I (laws_eqIntA2S.Z4.enc ((x0, x1, x5, ()), (())))) x0 x1 x5 := by kernel_rfl
theorem laws_eqIntA2S.i4 (k : Nat) : ∀ (n : Nat) (x0 : List I2) (x1 : List I2) (x5 : Int), iter (evCode (mkCx Try.prog (laws_eqIntA2S.c k) (laws_eqIntA2S.g k) : Cx laws_eqIntA2S.B4) (loopAt laws_eqIntA2S.bd 0)) laws_eqIntA2S.H4 laws_eqIntA2S.X4.dec n (laws_eqIntA2S.Z4.enc ((x0, x1, x5, ()), (()))) = laws_eqIntA2S.l4 k n x0 x1 x5
  | 0, _, _, _ => rfl
  | n + 1, x0, x1, x5 => ((iter_step _ _ _ _ n _).trans (laws_eqIntA2S.t4 k _ x0 x1 x5)).trans (congrArg (fun J => laws_eqIntA2S.s4 k J x0 x1 x5) (funext fun x0 => funext fun x1 => funext fun x5 => laws_eqIntA2S.i4 k n x0 x1 x5))
theorem laws_eqIntA2S.to4 (k : Nat) (hC : AllFun Try.prog (laws_eqIntA2S.c k)) : LoopTo Try.prog 27 (laws_eqIntA2S.e4 k) (loopAt laws_eqIntA2S.bd 0) := loop_to mixed hC (by kernel_rfl) (loops_all 0 (by kernel_rfl) fun i hi => absurd hi (Nat.not_lt_zero i)) fun a b h => ⟨k, (laws_eqIntA2S.i4 k k a.1.1 a.1.2.1 a.1.2.2.1).trans h⟩
theorem laws_eqIntA2S.link (k : Nat) (a0 : List I2) (a1 : List I2) : evFun (mkCx Try.prog (laws_eqIntA2S.c k) (laws_eqIntA2S.g k) : Cx Bool) Try.f50 ((laws_eqIntA2S.e k).args.enc (a0, a1, ())) (laws_eqIntA2S.e k).ret.dec = laws_eqIntA2S.f k a0 a1 := by kernel_rfl
theorem laws_eqIntA2S.ok1 (k : Nat) (hC : AllFun Try.prog (laws_eqIntA2S.c k)) : Fun Try.prog 50 (laws_eqIntA2S.e k).G := fun_ok mixed (body := laws_eqIntA2S.bd) Try.func50 (by kernel_rfl) (by kernel_rfl) (by kernel_rfl) hC (loops_all 1 (by kernel_rfl) fun i hi => by obtain rfl : i = 0 := Nat.lt_one_iff.1 hi; exact ⟨laws_eqIntA2S.e4 k, by kernel_rfl, laws_eqIntA2S.to4 k hC⟩) (laws_eqIntA2S.e k) (fun a => Nat.le_of_ble_eq_true (by kernel_rfl)) fun a b h => (laws_eqIntA2S.link k a.1 a.2.1).trans h
theorem laws_eqIntA2S.ok (k : Nat) : Fun Try.prog 50 (laws_eqIntA2S.e k).G := laws_eqIntA2S.ok1 k ⟨laws_eqIntA2.ok k, trivial⟩

noncomputable def laws_markIntA2S.H5 : Hd := ⟨[], [0, 1, 5, 6], [999999], []⟩
@[reducible] def laws_markIntA2S.A5 : Type := ((Unit × Int × Int × Int × Unit) × ((List I2) × Unit))
noncomputable def laws_markIntA2S.Z5 : SC laws_markIntA2S.A5 := sC laws_markIntA2S.H5 (eCons 0 (tOsl 999999) (eCons 1 (tP (aI .i64)) (eCons 5 (tP (aI .i64)) (eCons 6 (tP (aI .i64)) eNil)))) (bCons 999999 (xRow 124 .i2) bNil)
@[reducible] def laws_markIntA2S.B5 : Type := ((Unit × Int × Int × Unit) × ((List I2) × Unit))
noncomputable def laws_markIntA2S.X5 : XC laws_markIntA2S.B5 := xExit 2 (sC ⟨[], [0, 1, 5], [999999], []⟩ (eCons 0 (tOsl 999999) (eCons 1 (tP (aI .i64)) (eCons 5 (tP (aI .i64)) eNil))) (bCons 999999 (xRow 124 .i2) bNil))
noncomputable def laws_markIntA2S.s5 (k : Nat)  (J : Int → Int → Int → (List I2) → Option laws_markIntA2S.B5) (x1 : Int) (x5 : Int) (x6 : Int) (b999999 : List I2) : Option laws_markIntA2S.B5 :=
  if (decide (x6 < 2)) = true then (if 0 ≤ x5 then (if x5 < (b999999.length : Int) then (if x6 = 0 then (if x5.toNat < b999999.length then (J (W (x1 + 1)) x5 (W (x6 + 1)) (b999999.set x5.toNat (⟨x1, (b999999.getD x5.toNat default).y⟩ : I2))) else none) else (if x6 = 1 then (if x5.toNat < b999999.length then (J (W (x1 + 1)) x5 (W (x6 + 1)) (b999999.set x5.toNat (⟨(b999999.getD x5.toNat default).x, x1⟩ : I2))) else none) else none)) else none) else none) else (some (((), x1, x5, ()), (b999999, ())))
noncomputable def laws_markIntA2S.l5 (k : Nat)  : Nat → Int → Int → Int → (List I2) → Option laws_markIntA2S.B5
  | 0, _, _, _, _ => none
  | n + 1, x1, x5, x6, b999999 => laws_markIntA2S.s5 k (laws_markIntA2S.l5 k n) x1 x5 x6 b999999
noncomputable def laws_markIntA2S.H2 : Hd := ⟨[], [0, 1, 5], [999999], []⟩
@[reducible] def laws_markIntA2S.A2 : Type := ((Unit × Int × Int × Unit) × ((List I2) × Unit))
noncomputable def laws_markIntA2S.Z2 : SC laws_markIntA2S.A2 := sC laws_markIntA2S.H2 (eCons 0 (tOsl 999999) (eCons 1 (tP (aI .i64)) (eCons 5 (tP (aI .i64)) eNil))) (bCons 999999 (xRow 124 .i2) bNil)
@[reducible] def laws_markIntA2S.B2 : Type := ((Unit × Int × Unit) × ((List I2) × Unit))
noncomputable def laws_markIntA2S.X2 : XC laws_markIntA2S.B2 := xExit 0 (sC ⟨[], [0, 1], [999999], []⟩ (eCons 0 (tOsl 999999) (eCons 1 (tP (aI .i64)) eNil)) (bCons 999999 (xRow 124 .i2) bNil))
noncomputable def laws_markIntA2S.s2 (k : Nat)  (J : Int → Int → (List I2) → Option laws_markIntA2S.B2) (x1 : Int) (x5 : Int) (b999999 : List I2) : Option laws_markIntA2S.B2 :=
  if (decide (x5 < (b999999.length : Int))) = true then ((laws_markIntA2S.l5 k k x1 x5 0 b999999).bind fun x1 => J x1.1.2.1 (W (x1.1.2.2.1 + 1)) x1.2.1) else (some (((), x1, ()), (b999999, ())))
noncomputable def laws_markIntA2S.l2 (k : Nat)  : Nat → Int → Int → (List I2) → Option laws_markIntA2S.B2
  | 0, _, _, _ => none
  | n + 1, x1, x5, b999999 => laws_markIntA2S.s2 k (laws_markIntA2S.l2 k n) x1 x5 b999999
noncomputable def laws_markIntA2S.f (k : Nat) (a0 : List I2) (a1 : Int) : Option (Int × (List I2)) :=
  (laws_markIntA2S.l2 k k a1 0 a0).bind fun x2 => some (x2.1.2.1, x2.2.1)
noncomputable def laws_markIntA2S.e (k : Nat) : FS := { σ := List I2, α := Int × Unit, β := Int, sk := .row, st := (xRow 124 .i2), args := (lCons (aI .i64) lNil), ret := (rOne (aI .i64)), f := fun s p => laws_markIntA2S.f k s p.1 }
noncomputable def laws_markIntA2S.c (k : Nat) : List (Nat × CE) := []
noncomputable def laws_markIntA2S.bd : Code := match Try.f51.body with | some c => c | none => .skip
noncomputable def laws_markIntA2S.e5 (k : Nat) : LE := { H := laws_markIntA2S.H5, α := laws_markIntA2S.A5, β := laws_markIntA2S.B5, st := laws_markIntA2S.Z5, xt := laws_markIntA2S.X5, f := fun p => laws_markIntA2S.l5 k k p.1.2.1 p.1.2.2.1 p.1.2.2.2.1 p.2.1 }
noncomputable def laws_markIntA2S.e2 (k : Nat) : LE := { H := laws_markIntA2S.H2, α := laws_markIntA2S.A2, β := laws_markIntA2S.B2, st := laws_markIntA2S.Z2, xt := laws_markIntA2S.X2, f := fun p => laws_markIntA2S.l2 k k p.1.2.1 p.1.2.2.1 p.2.1 }
noncomputable def laws_markIntA2S.g (k : Nat) : List (Nat × LE) := [(5, laws_markIntA2S.e5 k), (2, laws_markIntA2S.e2 k)]
theorem laws_markIntA2S.t5 (k : Nat) (I : S2 → Option laws_markIntA2S.B5) (x1 : Int) (x5 : Int) (x6 : Int) (b999999 : List I2) : stepOf (mkCx Try.prog (laws_markIntA2S.c k) (laws_markIntA2S.g k) : Cx laws_markIntA2S.B5) (loopAt (loopAt laws_markIntA2S.bd 0) 0) laws_markIntA2S.H5 laws_markIntA2S.X5.dec I (laws_markIntA2S.Z5.enc (((), x1, x5, x6, ()), (b999999, ()))) = laws_markIntA2S.s5 k (fun x1 x5 x6 b999999 => I (laws_markIntA2S.Z5.enc (((), x1, x5, x6, ()), (b999999, ())))) x1 x5 x6 b999999 := by kernel_rfl
theorem laws_markIntA2S.i5 (k : Nat) : ∀ (n : Nat) (x1 : Int) (x5 : Int) (x6 : Int) (b999999 : List I2), iter (evCode (mkCx Try.prog (laws_markIntA2S.c k) (laws_markIntA2S.g k) : Cx laws_markIntA2S.B5) (loopAt (loopAt laws_markIntA2S.bd 0) 0)) laws_markIntA2S.H5 laws_markIntA2S.X5.dec n (laws_markIntA2S.Z5.enc (((), x1, x5, x6, ()), (b999999, ()))) = laws_markIntA2S.l5 k n x1 x5 x6 b999999
  | 0, _, _, _, _ => rfl
  | n + 1, x1, x5, x6, b999999 => ((iter_step _ _ _ _ n _).trans (laws_markIntA2S.t5 k _ x1 x5 x6 b999999)).trans (congrArg (fun J => laws_markIntA2S.s5 k J x1 x5 x6 b999999) (funext fun x1 => funext fun x5 => funext fun x6 => funext fun b999999 => laws_markIntA2S.i5 k n x1 x5 x6 b999999))
theorem laws_markIntA2S.t2 (k : Nat) (I : S2 → Option laws_markIntA2S.B2) (x1 : Int) (x5 : Int) (b999999 : List I2) : stepOf (mkCx Try.prog (laws_markIntA2S.c k) (laws_markIntA2S.g k) : Cx laws_markIntA2S.B2) (loopAt laws_markIntA2S.bd 0) laws_markIntA2S.H2 laws_markIntA2S.X2.dec I (laws_markIntA2S.Z2.enc (((), x1, x5, ()), (b999999, ()))) = laws_markIntA2S.s2 k (fun x1 x5 b999999 => I (laws_markIntA2S.Z2.enc (((), x1, x5, ()), (b999999, ())))) x1 x5 b999999 := by kernel_rfl
theorem laws_markIntA2S.i2 (k : Nat) : ∀ (n : Nat) (x1 : Int) (x5 : Int) (b999999 : List I2), iter (evCode (mkCx Try.prog (laws_markIntA2S.c k) (laws_markIntA2S.g k) : Cx laws_markIntA2S.B2) (loopAt laws_markIntA2S.bd 0)) laws_markIntA2S.H2 laws_markIntA2S.X2.dec n (laws_markIntA2S.Z2.enc (((), x1, x5, ()), (b999999, ()))) = laws_markIntA2S.l2 k n x1 x5 b999999
  | 0, _, _, _ => rfl
  | n + 1, x1, x5, b999999 => ((iter_step _ _ _ _ n _).trans (laws_markIntA2S.t2 k _ x1 x5 b999999)).trans (congrArg (fun J => laws_markIntA2S.s2 k J x1 x5 b999999) (funext fun x1 => funext fun x5 => funext fun b999999 => laws_markIntA2S.i2 k n x1 x5 b999999))
theorem laws_markIntA2S.to5 (k : Nat) (hC : AllFun Try.prog (laws_markIntA2S.c k)) : LoopTo Try.prog 26 (laws_markIntA2S.e5 k) (loopAt (loopAt laws_markIntA2S.bd 0) 0) := loop_to mixed hC (by kernel_rfl) (loops_all 0 (by kernel_rfl) fun i hi => absurd hi (Nat.not_lt_zero i)) fun a b h => ⟨k, (laws_markIntA2S.i5 k k a.1.2.1 a.1.2.2.1 a.1.2.2.2.1 a.2.1).trans h⟩
theorem laws_markIntA2S.to2 (k : Nat) (hC : AllFun Try.prog (laws_markIntA2S.c k)) : LoopTo Try.prog 26 (laws_markIntA2S.e2 k) (loopAt laws_markIntA2S.bd 0) := loop_to mixed hC (by kernel_rfl) (loops_all 1 (by kernel_rfl) fun i hi => by obtain rfl : i = 0 := Nat.lt_one_iff.1 hi; exact ⟨laws_markIntA2S.e5 k, by kernel_rfl, laws_markIntA2S.to5 k hC⟩) fun a b h => ⟨k, (laws_markIntA2S.i2 k k a.1.2.1 a.1.2.2.1 a.2.1).trans h⟩
theorem laws_markIntA2S.link (k : Nat) (a0 : List I2) (a1 : Int) : evFunS (mkCx Try.prog (laws_markIntA2S.c k) (laws_markIntA2S.g k) : Cx (Int × (List I2))) Try.f51 (laws_markIntA2S.e k).sk ((laws_markIntA2S.e k).st.enc a0) ((laws_markIntA2S.e k).args.enc (a1, ())) (laws_markIntA2S.e k).fin = laws_markIntA2S.f k a0 a1 := by kernel_rfl
theorem laws_markIntA2S.ok1 (k : Nat) (hC : AllFun Try.prog (laws_markIntA2S.c k)) : FunS Try.prog 51 (laws_markIntA2S.e k).sk (laws_markIntA2S.e k).H := fun_okS mixed (body := laws_markIntA2S.bd) Try.func51 (by kernel_rfl) (by kernel_rfl) (by kernel_rfl) hC (loops_all 1 (by kernel_rfl) fun i hi => by obtain rfl : i = 0 := Nat.lt_one_iff.1 hi; exact ⟨laws_markIntA2S.e2 k, by kernel_rfl, laws_markIntA2S.to2 k hC⟩) (laws_markIntA2S.e k) (fun a => Nat.le_of_ble_eq_true (by kernel_rfl)) (Nat.le_of_ble_eq_true (by kernel_rfl)) fun s a b h => (laws_markIntA2S.link k s a.1).trans h
theorem laws_markIntA2S.ok (k : Nat) : FunS Try.prog 51 (laws_markIntA2S.e k).sk (laws_markIntA2S.e k).H := laws_markIntA2S.ok1 k trivial

noncomputable def laws_heldIntA2S.H5 : Hd := ⟨[], [0, 1, 5, 6], [], []⟩
@[reducible] def laws_heldIntA2S.A5 : Type := (((List I2) × Int × Int × Int × Unit) × (Unit))
noncomputable def laws_heldIntA2S.Z5 : SC laws_heldIntA2S.A5 := sC laws_heldIntA2S.H5 (eCons 0 (tP (aSl .i2)) (eCons 1 (tP (aI .i64)) (eCons 5 (tP (aI .i64)) (eCons 6 (tP (aI .i64)) eNil)))) bNil
@[reducible] def laws_heldIntA2S.B5 : Type := ((Int × Unit) × (Unit)) ⊕ (((List I2) × Int × Int × Unit) × (Unit))
noncomputable def laws_heldIntA2S.X5 : XC laws_heldIntA2S.B5 := xOr (xRet (sC ⟨[], [4], [], []⟩ (eCons 4 (tP (aI .i64)) eNil) bNil)) (xExit 2 (sC ⟨[], [0, 1, 5], [], []⟩ (eCons 0 (tP (aSl .i2)) (eCons 1 (tP (aI .i64)) (eCons 5 (tP (aI .i64)) eNil))) bNil))
noncomputable def laws_heldIntA2S.s5 (k : Nat)  (J : (List I2) → Int → Int → Int → Option laws_heldIntA2S.B5) (x0 : List I2) (x1 : Int) (x5 : Int) (x6 : Int) : Option laws_heldIntA2S.B5 :=
  if (decide (x6 < 2)) = true then (if 0 ≤ x5 then (if x5 < (x0.length : Int) then (if x6 = 0 then (if ((rd x0 x5).x != x1) = true then (some (.inl (((-1), ()), (())))) else (J x0 (W (x1 + 1)) x5 (W (x6 + 1)))) else (if x6 = 1 then (if ((rd x0 x5).y != x1) = true then (some (.inl (((-1), ()), (())))) else (J x0 (W (x1 + 1)) x5 (W (x6 + 1)))) else none)) else none) else none) else (some (.inr ((x0, x1, x5, ()), (()))))
noncomputable def laws_heldIntA2S.l5 (k : Nat)  : Nat → (List I2) → Int → Int → Int → Option laws_heldIntA2S.B5
  | 0, _, _, _, _ => none
  | n + 1, x0, x1, x5, x6 => laws_heldIntA2S.s5 k (laws_heldIntA2S.l5 k n) x0 x1 x5 x6
noncomputable def laws_heldIntA2S.H2 : Hd := ⟨[], [0, 1, 5], [], []⟩
@[reducible] def laws_heldIntA2S.A2 : Type := (((List I2) × Int × Int × Unit) × (Unit))
noncomputable def laws_heldIntA2S.Z2 : SC laws_heldIntA2S.A2 := sC laws_heldIntA2S.H2 (eCons 0 (tP (aSl .i2)) (eCons 1 (tP (aI .i64)) (eCons 5 (tP (aI .i64)) eNil))) bNil
@[reducible] def laws_heldIntA2S.B2 : Type := ((Int × Unit) × (Unit)) ⊕ ((Int × Unit) × (Unit))
noncomputable def laws_heldIntA2S.X2 : XC laws_heldIntA2S.B2 := xOr (xRet (sC ⟨[], [4], [], []⟩ (eCons 4 (tP (aI .i64)) eNil) bNil)) (xExit 0 (sC ⟨[], [1], [], []⟩ (eCons 1 (tP (aI .i64)) eNil) bNil))
noncomputable def laws_heldIntA2S.s2 (k : Nat)  (J : (List I2) → Int → Int → Option laws_heldIntA2S.B2) (x0 : List I2) (x1 : Int) (x5 : Int) : Option laws_heldIntA2S.B2 :=
  if (decide (x5 < (x0.length : Int))) = true then ((laws_heldIntA2S.l5 k k x0 x1 x5 0).bind fun | .inl r1 => (some (.inl ((r1.1.1, ()), (())))) | .inr x2 => (J x2.1.1 x2.1.2.1 (W (x2.1.2.2.1 + 1)))) else (some (.inr ((x1, ()), (()))))
noncomputable def laws_heldIntA2S.l2 (k : Nat)  : Nat → (List I2) → Int → Int → Option laws_heldIntA2S.B2
  | 0, _, _, _ => none
  | n + 1, x0, x1, x5 => laws_heldIntA2S.s2 k (laws_heldIntA2S.l2 k n) x0 x1 x5
noncomputable def laws_heldIntA2S.f (k : Nat) (a0 : List I2) (a1 : Int) : Option Int :=
  (laws_heldIntA2S.l2 k k a0 a1 0).bind fun | .inl r3 => (some r3.1.1) | .inr x4 => (some x4.1.1)
noncomputable def laws_heldIntA2S.e (k : Nat) : FE := { α := (List I2) × Int × Unit, β := Int, args := (lCons (aSl .i2) (lCons (aI .i64) lNil)), ret := (rOne (aI .i64)), f := fun p => laws_heldIntA2S.f k p.1 p.2.1 }
noncomputable def laws_heldIntA2S.c (k : Nat) : List (Nat × CE) := []
noncomputable def laws_heldIntA2S.bd : Code := match Try.f52.body with | some c => c | none => .skip
noncomputable def laws_heldIntA2S.e5 (k : Nat) : LE := { H := laws_heldIntA2S.H5, α := laws_heldIntA2S.A5, β := laws_heldIntA2S.B5, st := laws_heldIntA2S.Z5, xt := laws_heldIntA2S.X5, f := fun p => laws_heldIntA2S.l5 k k p.1.1 p.1.2.1 p.1.2.2.1 p.1.2.2.2.1 }
noncomputable def laws_heldIntA2S.e2 (k : Nat) : LE := { H := laws_heldIntA2S.H2, α := laws_heldIntA2S.A2, β := laws_heldIntA2S.B2, st := laws_heldIntA2S.Z2, xt := laws_heldIntA2S.X2, f := fun p => laws_heldIntA2S.l2 k k p.1.1 p.1.2.1 p.1.2.2.1 }
noncomputable def laws_heldIntA2S.g (k : Nat) : List (Nat × LE) := [(5, laws_heldIntA2S.e5 k), (2, laws_heldIntA2S.e2 k)]
theorem laws_heldIntA2S.t5 (k : Nat) (I : S2 → Option laws_heldIntA2S.B5) (x0 : List I2) (x1 : Int) (x5 : Int) (x6 : Int) : stepOf (mkCx Try.prog (laws_heldIntA2S.c k) (laws_heldIntA2S.g k) : Cx laws_heldIntA2S.B5) (loopAt (loopAt laws_heldIntA2S.bd 0) 0) laws_heldIntA2S.H5 laws_heldIntA2S.X5.dec I (laws_heldIntA2S.Z5.enc ((x0, x1, x5, x6, ()), (()))) = laws_heldIntA2S.s5 k (fun x0 x1 x5 x6 => I (laws_heldIntA2S.Z5.enc ((x0, x1, x5, x6, ()), (())))) x0 x1 x5 x6 := by kernel_rfl
theorem laws_heldIntA2S.i5 (k : Nat) : ∀ (n : Nat) (x0 : List I2) (x1 : Int) (x5 : Int) (x6 : Int), iter (evCode (mkCx Try.prog (laws_heldIntA2S.c k) (laws_heldIntA2S.g k) : Cx laws_heldIntA2S.B5) (loopAt (loopAt laws_heldIntA2S.bd 0) 0)) laws_heldIntA2S.H5 laws_heldIntA2S.X5.dec n (laws_heldIntA2S.Z5.enc ((x0, x1, x5, x6, ()), (()))) = laws_heldIntA2S.l5 k n x0 x1 x5 x6
  | 0, _, _, _, _ => rfl
  | n + 1, x0, x1, x5, x6 => ((iter_step _ _ _ _ n _).trans (laws_heldIntA2S.t5 k _ x0 x1 x5 x6)).trans (congrArg (fun J => laws_heldIntA2S.s5 k J x0 x1 x5 x6) (funext fun x0 => funext fun x1 => funext fun x5 => funext fun x6 => laws_heldIntA2S.i5 k n x0 x1 x5 x6))
theorem laws_heldIntA2S.t2 (k : Nat) (I : S2 → Option laws_heldIntA2S.B2) (x0 : List I2) (x1 : Int) (x5 : Int) : stepOf (mkCx Try.prog (laws_heldIntA2S.c k) (laws_heldIntA2S.g k) : Cx laws_heldIntA2S.B2) (loopAt laws_heldIntA2S.bd 0) laws_heldIntA2S.H2 laws_heldIntA2S.X2.dec I (laws_heldIntA2S.Z2.enc ((x0, x1, x5, ()), (()))) = laws_heldIntA2S.s2 k (fun x0 x1 x5 => I (laws_heldIntA2S.Z2.enc ((x0, x1, x5, ()), (())))) x0 x1 x5 := by kernel_rfl
theorem laws_heldIntA2S.i2 (k : Nat) : ∀ (n : Nat) (x0 : List I2) (x1 : Int) (x5 : Int), iter (evCode (mkCx Try.prog (laws_heldIntA2S.c k) (laws_heldIntA2S.g k) : Cx laws_heldIntA2S.B2) (loopAt laws_heldIntA2S.bd 0)) laws_heldIntA2S.H2 laws_heldIntA2S.X2.dec n (laws_heldIntA2S.Z2.enc ((x0, x1, x5, ()), (()))) = laws_heldIntA2S.l2 k n x0 x1 x5
  | 0, _, _, _ => rfl
  | n + 1, x0, x1, x5 => ((iter_step _ _ _ _ n _).trans (laws_heldIntA2S.t2 k _ x0 x1 x5)).trans (congrArg (fun J => laws_heldIntA2S.s2 k J x0 x1 x5) (funext fun x0 => funext fun x1 => funext fun x5 => laws_heldIntA2S.i2 k n x0 x1 x5))
theorem laws_heldIntA2S.to5 (k : Nat) (hC : AllFun Try.prog (laws_heldIntA2S.c k)) : LoopTo Try.prog 28 (laws_heldIntA2S.e5 k) (loopAt (loopAt laws_heldIntA2S.bd 0) 0) := loop_to mixed hC (by kernel_rfl) (loops_all 0 (by kernel_rfl) fun i hi => absurd hi (Nat.not_lt_zero i)) fun a b h => ⟨k, (laws_heldIntA2S.i5 k k a.1.1 a.1.2.1 a.1.2.2.1 a.1.2.2.2.1).trans h⟩
theorem laws_heldIntA2S.to2 (k : Nat) (hC : AllFun Try.prog (laws_heldIntA2S.c k)) : LoopTo Try.prog 28 (laws_heldIntA2S.e2 k) (loopAt laws_heldIntA2S.bd 0) := loop_to mixed hC (by kernel_rfl) (loops_all 1 (by kernel_rfl) fun i hi => by obtain rfl : i = 0 := Nat.lt_one_iff.1 hi; exact ⟨laws_heldIntA2S.e5 k, by kernel_rfl, laws_heldIntA2S.to5 k hC⟩) fun a b h => ⟨k, (laws_heldIntA2S.i2 k k a.1.1 a.1.2.1 a.1.2.2.1).trans h⟩
theorem laws_heldIntA2S.link (k : Nat) (a0 : List I2) (a1 : Int) : evFun (mkCx Try.prog (laws_heldIntA2S.c k) (laws_heldIntA2S.g k) : Cx Int) Try.f52 ((laws_heldIntA2S.e k).args.enc (a0, a1, ())) (laws_heldIntA2S.e k).ret.dec = laws_heldIntA2S.f k a0 a1 := by kernel_rfl
theorem laws_heldIntA2S.ok1 (k : Nat) (hC : AllFun Try.prog (laws_heldIntA2S.c k)) : Fun Try.prog 52 (laws_heldIntA2S.e k).G := fun_ok mixed (body := laws_heldIntA2S.bd) Try.func52 (by kernel_rfl) (by kernel_rfl) (by kernel_rfl) hC (loops_all 1 (by kernel_rfl) fun i hi => by obtain rfl : i = 0 := Nat.lt_one_iff.1 hi; exact ⟨laws_heldIntA2S.e2 k, by kernel_rfl, laws_heldIntA2S.to2 k hC⟩) (laws_heldIntA2S.e k) (fun a => Nat.le_of_ble_eq_true (by kernel_rfl)) fun a b h => (laws_heldIntA2S.link k a.1 a.2.1).trans h
theorem laws_heldIntA2S.ok (k : Nat) : Fun Try.prog 52 (laws_heldIntA2S.e k).G := laws_heldIntA2S.ok1 k trivial

noncomputable def laws_FnExactEdgesOf.f (k : Nat) (a0 : List S4) : Option Bool :=
  (laws_szPlaneS.f k  a0 1048576).bind fun t1 => if (decide (t1 < 0)) = true then (some true) else ((laws_toPlaneS.f k  a0).bind fun t2 => (spec_EdgesOf.f k  t2).bind fun t3 => (laws_toPlaneS.f k  a0).bind fun t4 => (impl_EdgesOf.f k  t4).bind fun t5 => (laws_eqIntA2S.f k  t5 t3).bind fun t6 => if (!t6) = true then (some false) else ((laws_toPlaneS.f k  a0).bind fun t7 => (laws_eqPlaneS.f k  t4 t7).bind fun t8 => if (!t8) = true then (some false) else ((laws_markPlaneS.f k  t4 1).bind fun t9 => if (decide (t9.1 < 0)) = true then (some false) else ((laws_eqIntA2S.f k  t5 t3).bind fun t10 => if (!t10) = true then (some false) else ((laws_markIntA2S.f k  t5 1).bind fun t11 => (laws_heldIntA2S.f k  t11.2 1).bind fun t12 => if (decide (t12 < 0)) = true then (some false) else (if (t12 != t11.1) = true then (some false) else ((laws_toPlaneS.f k  a0).bind fun t13 => (impl_EdgesOf.f k  t13).bind fun t14 => (laws_eqIntA2S.f k  t14 t3).bind fun t15 => if (!t15) = true then (some false) else ((laws_heldIntA2S.f k  t11.2 1).bind fun t16 => if (decide (t16 < 0)) = true then (some false) else (if (t16 != t11.1) = true then (some false) else (some true))))))))))
noncomputable def laws_FnExactEdgesOf.e (k : Nat) : FE := { α := (List S4) × Unit, β := Bool, args := (lCons (aSl .s4) lNil), ret := (rOne aB), f := fun p => laws_FnExactEdgesOf.f k p.1 }
noncomputable def laws_FnExactEdgesOf.c (k : Nat) : List (Nat × CE) := [(22, .fn (laws_szPlaneS.e k)), (24, .fn (laws_toPlaneS.e k)), (48, .fn (spec_EdgesOf.e k)), (49, .fn (impl_EdgesOf.e k)), (50, .fn (laws_eqIntA2S.e k)), (26, .fn (laws_eqPlaneS.e k)), (27, .st (laws_markPlaneS.e k)), (51, .st (laws_markIntA2S.e k)), (52, .fn (laws_heldIntA2S.e k))]
noncomputable def laws_FnExactEdgesOf.bd : Code := match Try.f10.body with | some c => c | none => .skip
noncomputable def laws_FnExactEdgesOf.g (k : Nat) : List (Nat × LE) := []
theorem laws_FnExactEdgesOf.link (k : Nat) (a0 : List S4) : evFun (mkCx Try.prog (laws_FnExactEdgesOf.c k) (laws_FnExactEdgesOf.g k) : Cx Bool) Try.f10 ((laws_FnExactEdgesOf.e k).args.enc (a0, ())) (laws_FnExactEdgesOf.e k).ret.dec = laws_FnExactEdgesOf.f k a0 := by kernel_rfl
theorem laws_FnExactEdgesOf.ok1 (k : Nat) (hC : AllFun Try.prog (laws_FnExactEdgesOf.c k)) : Fun Try.prog 10 (laws_FnExactEdgesOf.e k).G := fun_ok mixed (body := laws_FnExactEdgesOf.bd) Try.func10 (by kernel_rfl) (by kernel_rfl) (by kernel_rfl) hC (loops_all 0 (by kernel_rfl) fun i hi => absurd hi (Nat.not_lt_zero i)) (laws_FnExactEdgesOf.e k) (fun a => Nat.le_of_ble_eq_true (by kernel_rfl)) fun a b h => (laws_FnExactEdgesOf.link k a.1).trans h
theorem laws_FnExactEdgesOf.ok (k : Nat) : Fun Try.prog 10 (laws_FnExactEdgesOf.e k).G := laws_FnExactEdgesOf.ok1 k ⟨laws_szPlaneS.ok k, laws_toPlaneS.ok k, spec_EdgesOf.ok k, impl_EdgesOf.ok k, laws_eqIntA2S.ok k, laws_eqPlaneS.ok k, laws_markPlaneS.ok k, laws_markIntA2S.ok k, laws_heldIntA2S.ok k, trivial⟩

end Go.Proofs.Ytlkcpldohlemcaa.G
