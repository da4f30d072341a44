/- Go functions told as plain Lean functions; that the code does what these tell. Printed by a program of the session (evp.py). -/
import Derived.Test.YtfgaeenlnkioaaaEv16
import Derived.Test.YtfgaeenlnkioaaaG3
namespace Go.Proofs.Ytfgaeenlnkioaaa.G
open Go Go.RowKit Go.Proofs Go.Proofs.Ytfgaeenlnkioaaa.Ev
set_option linter.unusedVariables false
set_option maxRecDepth 100000

noncomputable def spec_Blame.H8 : Hd := ⟨[], [0, 3, 4, 5], []⟩
@[reducible] def spec_Blame.A8 : Type := (((List S4) × Int × Unit × Int × Unit) × ((List Int) × Unit))
noncomputable def spec_Blame.Z8 : SC spec_Blame.A8 := sC spec_Blame.H8 (eCons 0 (tP (aSl .s4)) (eCons 3 (tP (aI .i64)) (eCons 4 (tOsl 1000004) (eCons 5 (tP (aI .i64)) eNil)))) (bCons 1000004 (xRow 3 (.i .i64)) bNil)
@[reducible] def spec_Blame.B8 : Type := (((List S4) × Int × Unit × Unit) × ((List Int) × Unit))
noncomputable def spec_Blame.X8 : XC spec_Blame.B8 := xExit 2 (sC ⟨[], [0, 3, 4], []⟩ (eCons 0 (tP (aSl .s4)) (eCons 3 (tP (aI .i64)) (eCons 4 (tOsl 1000004) eNil))) (bCons 1000004 (xRow 3 (.i .i64)) bNil))
noncomputable def spec_Blame.s8 (k : Nat)  (J : (List S4) → Int → Int → (List Int) → Option spec_Blame.B8) (x0 : List S4) (x3 : Int) (x5 : Int) (b1000004 : List Int) : Option spec_Blame.B8 :=
  if (decide (x5 < x3)) = true then (if lt47 (b1000004.length + ([x5] : List Int).length) = true then (J x0 x3 (W (x5 + 1)) (b1000004 ++ ([x5] : List Int))) else none) else (some ((x0, x3, (), ()), (b1000004, ())))
noncomputable def spec_Blame.l8 (k : Nat)  : Nat → (List S4) → Int → Int → (List Int) → Option spec_Blame.B8
  | 0, _, _, _, _ => none
  | n + 1, x0, x3, x5, b1000004 => spec_Blame.s8 k (spec_Blame.l8 k n) x0 x3 x5 b1000004
noncomputable def spec_Blame.H16 : Hd := ⟨[], [0, 3, 4, 7, 8], []⟩
@[reducible] def spec_Blame.A16 : Type := (((List S4) × Int × Unit × Unit × Int × Unit) × ((List Int) × (List S4) × Unit))
noncomputable def spec_Blame.Z16 : SC spec_Blame.A16 := sC spec_Blame.H16 (eCons 0 (tP (aSl .s4)) (eCons 3 (tP (aI .i64)) (eCons 4 (tOsl 1000004) (eCons 7 (tOsl 1000007) (eCons 8 (tP (aI .i64)) eNil))))) (bCons 1000004 (xRow 3 (.i .i64)) (bCons 1000007 (xRow 24 .s4) bNil))
@[reducible] def spec_Blame.B16 : Type := (((List S4) × Int × Unit × Unit × Unit) × ((List Int) × (List S4) × Unit))
noncomputable def spec_Blame.X16 : XC spec_Blame.B16 := xExit 6 (sC ⟨[], [0, 3, 4, 7], []⟩ (eCons 0 (tP (aSl .s4)) (eCons 3 (tP (aI .i64)) (eCons 4 (tOsl 1000004) (eCons 7 (tOsl 1000007) eNil)))) (bCons 1000004 (xRow 3 (.i .i64)) (bCons 1000007 (xRow 24 .s4) bNil)))
noncomputable def spec_Blame.s16 (k : Nat)  (J : (List S4) → Int → Int → (List Int) → (List S4) → Option spec_Blame.B16) (x0 : List S4) (x3 : Int) (x8 : Int) (b1000004 : List Int) (b1000007 : List S4) : Option spec_Blame.B16 :=
  if (decide (x8 < x3)) = true then (if 0 ≤ x8 then (if x8 < (b1000004.length : Int) then (if x8.toNat < b1000004.length then (if 0 ≤ (b1000004.getD x8.toNat default) then (if (b1000004.getD x8.toNat default) < (x0.length : Int) then (if lt47 (b1000007.length + ([(rd x0 (b1000004.getD x8.toNat default))] : List S4).length) = true then (J x0 x3 (W (x8 + 1)) b1000004 (b1000007 ++ ([(rd x0 (b1000004.getD x8.toNat default))] : List S4))) else none) else none) else none) else none) else none) else none) else (some ((x0, x3, (), (), ()), (b1000004, b1000007, ())))
noncomputable def spec_Blame.l16 (k : Nat)  : Nat → (List S4) → Int → Int → (List Int) → (List S4) → Option spec_Blame.B16
  | 0, _, _, _, _, _ => none
  | n + 1, x0, x3, x8, b1000004, b1000007 => spec_Blame.s16 k (spec_Blame.l16 k n) x0 x3 x8 b1000004 b1000007
noncomputable def spec_Blame.H12 : Hd := ⟨[], [0, 3, 4, 6], []⟩
@[reducible] def spec_Blame.A12 : Type := (((List S4) × Int × Unit × Bool × Unit) × ((List Int) × Unit))
noncomputable def spec_Blame.Z12 : SC spec_Blame.A12 := sC spec_Blame.H12 (eCons 0 (tP (aSl .s4)) (eCons 3 (tP (aI .i64)) (eCons 4 (tOsl 1000004) (eCons 6 (tP aB) eNil)))) (bCons 1000004 (xRow 3 (.i .i64)) bNil)
@[reducible] def spec_Blame.B12 : Type := ((Unit × Unit) × ((List Int) × Unit)) ⊕ (((List S4) × Int × Unit) × (Unit))
noncomputable def spec_Blame.X12 : XC spec_Blame.B12 := xOr (xRet (sC ⟨[], [2], []⟩ (eCons 2 (tOsl 1000002) eNil) (bCons 1000002 (xRow 3 (.i .i64)) bNil))) (xExit 4 (sC ⟨[], [0, 3], []⟩ (eCons 0 (tP (aSl .s4)) (eCons 3 (tP (aI .i64)) eNil)) bNil))
noncomputable def spec_Blame.s12 (k : Nat)  (J : (List S4) → Int → Bool → (List Int) → Option spec_Blame.B12) (x0 : List S4) (x3 : Int) (x6 : Bool) (b1000004 : List Int) : Option spec_Blame.B12 :=
  if x6 = true then ((spec_Blame.l16 k k x0 x3 0 b1000004 ([] : List S4)).bind fun x4 => (spec_l6Open.f k  x4.2.2.1).bind fun t5 => if (!t5) = true then (some (.inl (((), ()), (x4.2.1, ())))) else ((spec_l6Next.f k  x4.2.1 (x4.1.1.length : Int)).bind fun t6 => J x4.1.1 x4.1.2.1 t6.1 t6.2)) else (some (.inr ((x0, x3, ()), (()))))
noncomputable def spec_Blame.l12 (k : Nat)  : Nat → (List S4) → Int → Bool → (List Int) → Option spec_Blame.B12
  | 0, _, _, _, _ => none
  | n + 1, x0, x3, x6, b1000004 => spec_Blame.s12 k (spec_Blame.l12 k n) x0 x3 x6 b1000004
noncomputable def spec_Blame.H4 : Hd := ⟨[], [0, 3], []⟩
@[reducible] def spec_Blame.A4 : Type := (((List S4) × Int × Unit) × (Unit))
noncomputable def spec_Blame.Z4 : SC spec_Blame.A4 := sC spec_Blame.H4 (eCons 0 (tP (aSl .s4)) (eCons 3 (tP (aI .i64)) eNil)) bNil
@[reducible] def spec_Blame.B4 : Type := ((Unit × Unit) × ((List Int) × Unit)) ⊕ ((Unit) × (Unit))
noncomputable def spec_Blame.X4 : XC spec_Blame.B4 := xOr (xRet (sC ⟨[], [2], []⟩ (eCons 2 (tOsl 1000002) eNil) (bCons 1000002 (xRow 3 (.i .i64)) bNil))) (xExit 0 (sC ⟨[], [], []⟩ eNil bNil))
noncomputable def spec_Blame.s4 (k : Nat)  (J : (List S4) → Int → Option spec_Blame.B4) (x0 : List S4) (x3 : Int) : Option spec_Blame.B4 :=
  if (decide (x3 ≤ 4)) = true then ((spec_Blame.l8 k k x0 x3 0 ([] : List Int)).bind fun x3 => (spec_Blame.l12 k k x3.1.1 x3.1.2.1 (decide (x3.1.2.1 ≤ (x3.1.1.length : Int))) x3.2.1).bind fun | .inl r7 => (some (.inl (((), ()), (r7.2.1, ())))) | .inr x8 => (J x8.1.1 (W (x8.1.2.1 + 1)))) else (some (.inr ((()), (()))))
noncomputable def spec_Blame.l4 (k : Nat)  : Nat → (List S4) → Int → Option spec_Blame.B4
  | 0, _, _ => none
  | n + 1, x0, x3 => spec_Blame.s4 k (spec_Blame.l4 k n) x0 x3
noncomputable def spec_Blame.f (k : Nat) (a0 : List S4) : Option (List Int) :=
  (spec_l6Right.f k  a0).bind fun t1 => if (!t1) = true then (some ([] : List Int)) else ((spec_l6Open.f k  a0).bind fun t2 => if t2 = true then (some ([] : List Int)) else ((spec_Blame.l4 k k a0 2).bind fun | .inl r9 => (some r9.2.1) | .inr x10 => (some ([] : List Int))))
noncomputable def spec_Blame.e (k : Nat) : FE := { α := (List S4) × Unit, β := List Int, args := (lCons (aSl .s4) lNil), ret := (rOwn 3 (.i .i64)), f := fun p => spec_Blame.f k p.1 }
noncomputable def spec_Blame.c (k : Nat) : List (Nat × CE) := [(76, .fn (spec_l6Right.e k)), (77, .fn (spec_l6Open.e k)), (78, .st (spec_l6Next.e k))]
noncomputable def spec_Blame.bd : Code := match Try.f32.body with | some c => c | none => .skip
noncomputable def spec_Blame.e8 (k : Nat) : LE := { H := spec_Blame.H8, α := spec_Blame.A8, β := spec_Blame.B8, st := spec_Blame.Z8, xt := spec_Blame.X8, f := fun p => spec_Blame.l8 k k p.1.1 p.1.2.1 p.1.2.2.2.1 p.2.1 }
noncomputable def spec_Blame.e16 (k : Nat) : LE := { H := spec_Blame.H16, α := spec_Blame.A16, β := spec_Blame.B16, st := spec_Blame.Z16, xt := spec_Blame.X16, f := fun p => spec_Blame.l16 k k p.1.1 p.1.2.1 p.1.2.2.2.2.1 p.2.1 p.2.2.1 }
noncomputable def spec_Blame.e12 (k : Nat) : LE := { H := spec_Blame.H12, α := spec_Blame.A12, β := spec_Blame.B12, st := spec_Blame.Z12, xt := spec_Blame.X12, f := fun p => spec_Blame.l12 k k p.1.1 p.1.2.1 p.1.2.2.2.1 p.2.1 }
noncomputable def spec_Blame.e4 (k : Nat) : LE := { H := spec_Blame.H4, α := spec_Blame.A4, β := spec_Blame.B4, st := spec_Blame.Z4, xt := spec_Blame.X4, f := fun p => spec_Blame.l4 k k p.1.1 p.1.2.1 }
noncomputable def spec_Blame.g (k : Nat) : List (Nat × LE) := [(8, spec_Blame.e8 k), (16, spec_Blame.e16 k), (12, spec_Blame.e12 k), (4, spec_Blame.e4 k)]
theorem spec_Blame.t8 (k : Nat) (I : S2 → Option spec_Blame.B8) (x0 : List S4) (x3 : Int) (x5 : Int) (b1000004 : List Int) : stepOf (mkCx Try.prog (spec_Blame.c k) (spec_Blame.g k) : Cx spec_Blame.B8) (loopAt (loopAt spec_Blame.bd 0) 0) spec_Blame.H8 spec_Blame.X8.dec I (spec_Blame.Z8.enc ((x0, x3, (), x5, ()), (b1000004, ()))) = spec_Blame.s8 k (fun x0 x3 x5 b1000004 => I (spec_Blame.Z8.enc ((x0, x3, (), x5, ()), (b1000004, ())))) x0 x3 x5 b1000004 := by kernel_rfl
theorem spec_Blame.i8 (k : Nat) : ∀ (n : Nat) (x0 : List S4) (x3 : Int) (x5 : Int) (b1000004 : List Int), iter (evCode (mkCx Try.prog (spec_Blame.c k) (spec_Blame.g k) : Cx spec_Blame.B8) (loopAt (loopAt spec_Blame.bd 0) 0)) spec_Blame.H8 spec_Blame.X8.dec n (spec_Blame.Z8.enc ((x0, x3, (), x5, ()), (b1000004, ()))) = spec_Blame.l8 k n x0 x3 x5 b1000004
  | 0, _, _, _, _ => rfl
  | n + 1, x0, x3, x5, b1000004 => ((iter_step _ _ _ _ n _).trans (spec_Blame.t8 k _ x0 x3 x5 b1000004)).trans (congrArg (fun J => spec_Blame.s8 k J x0 x3 x5 b1000004) (funext fun x0 => funext fun x3 => funext fun x5 => funext fun b1000004 => spec_Blame.i8 k n x0 x3 x5 b1000004))
theorem spec_Blame.t16 (k : Nat) (I : S2 → Option spec_Blame.B16) (x0 : List S4) (x3 : Int) (x8 : Int) (b1000004 : List Int) (b1000007 : List S4) : stepOf (mkCx Try.prog (spec_Blame.c k) (spec_Blame.g k) : Cx spec_Blame.B16) (loopAt (loopAt (loopAt spec_Blame.bd 0) 1) 0) spec_Blame.H16 spec_Blame.X16.dec I (spec_Blame.Z16.enc ((x0, x3, (), (), x8, ()), (b1000004, b1000007, ()))) = spec_Blame.s16 k (fun x0 x3 x8 b1000004 b1000007 => I (spec_Blame.Z16.enc ((x0, x3, (), (), x8, ()), (b1000004, b1000007, ())))) x0 x3 x8 b1000004 b1000007 := by kernel_rfl
theorem spec_Blame.i16 (k : Nat) : ∀ (n : Nat) (x0 : List S4) (x3 : Int) (x8 : Int) (b1000004 : List Int) (b1000007 : List S4), iter (evCode (mkCx Try.prog (spec_Blame.c k) (spec_Blame.g k) : Cx spec_Blame.B16) (loopAt (loopAt (loopAt spec_Blame.bd 0) 1) 0)) spec_Blame.H16 spec_Blame.X16.dec n (spec_Blame.Z16.enc ((x0, x3, (), (), x8, ()), (b1000004, b1000007, ()))) = spec_Blame.l16 k n x0 x3 x8 b1000004 b1000007
  | 0, _, _, _, _, _ => rfl
  | n + 1, x0, x3, x8, b1000004, b1000007 => ((iter_step _ _ _ _ n _).trans (spec_Blame.t16 k _ x0 x3 x8 b1000004 b1000007)).trans (congrArg (fun J => spec_Blame.s16 k J x0 x3 x8 b1000004 b1000007) (funext fun x0 => funext fun x3 => funext fun x8 => funext fun b1000004 => funext fun b1000007 => spec_Blame.i16 k n x0 x3 x8 b1000004 b1000007))
theorem spec_Blame.t12 (k : Nat) (I : S2 → Option spec_Blame.B12) (x0 : List S4) (x3 : Int) (x6 : Bool) (b1000004 : List Int) : stepOf (mkCx Try.prog (spec_Blame.c k) (spec_Blame.g k) : Cx spec_Blame.B12) (loopAt (loopAt spec_Blame.bd 0) 1) spec_Blame.H12 spec_Blame.X12.dec I (spec_Blame.Z12.enc ((x0, x3, (), x6, ()), (b1000004, ()))) = spec_Blame.s12 k (fun x0 x3 x6 b1000004 => I (spec_Blame.Z12.enc ((x0, x3, (), x6, ()), (b1000004, ())))) x0 x3 x6 b1000004 := by kernel_rfl
theorem spec_Blame.i12 (k : Nat) : ∀ (n : Nat) (x0 : List S4) (x3 : Int) (x6 : Bool) (b1000004 : List Int), iter (evCode (mkCx Try.prog (spec_Blame.c k) (spec_Blame.g k) : Cx spec_Blame.B12) (loopAt (loopAt spec_Blame.bd 0) 1)) spec_Blame.H12 spec_Blame.X12.dec n (spec_Blame.Z12.enc ((x0, x3, (), x6, ()), (b1000004, ()))) = spec_Blame.l12 k n x0 x3 x6 b1000004
  | 0, _, _, _, _ => rfl
  | n + 1, x0, x3, x6, b1000004 => ((iter_step _ _ _ _ n _).trans (spec_Blame.t12 k _ x0 x3 x6 b1000004)).trans (congrArg (fun J => spec_Blame.s12 k J x0 x3 x6 b1000004) (funext fun x0 => funext fun x3 => funext fun x6 => funext fun b1000004 => spec_Blame.i12 k n x0 x3 x6 b1000004))
theorem spec_Blame.t4 (k : Nat) (I : S2 → Option spec_Blame.B4) (x0 : List S4) (x3 : Int) : stepOf (mkCx Try.prog (spec_Blame.c k) (spec_Blame.g k) : Cx spec_Blame.B4) (loopAt spec_Blame.bd 0) spec_Blame.H4 spec_Blame.X4.dec I (spec_Blame.Z4.enc ((x0, x3, ()), (()))) = spec_Blame.s4 k (fun x0 x3 => I (spec_Blame.Z4.enc ((x0, x3, ()), (())))) x0 x3 := by kernel_rfl
theorem spec_Blame.i4 (k : Nat) : ∀ (n : Nat) (x0 : List S4) (x3 : Int), iter (evCode (mkCx Try.prog (spec_Blame.c k) (spec_Blame.g k) : Cx spec_Blame.B4) (loopAt spec_Blame.bd 0)) spec_Blame.H4 spec_Blame.X4.dec n (spec_Blame.Z4.enc ((x0, x3, ()), (()))) = spec_Blame.l4 k n x0 x3
  | 0, _, _ => rfl
  | n + 1, x0, x3 => ((iter_step _ _ _ _ n _).trans (spec_Blame.t4 k _ x0 x3)).trans (congrArg (fun J => spec_Blame.s4 k J x0 x3) (funext fun x0 => funext fun x3 => spec_Blame.i4 k n x0 x3))
theorem spec_Blame.to8 (k : Nat) (hC : AllFun Try.prog (spec_Blame.c k)) : LoopTo Try.prog 61 (spec_Blame.e8 k) (loopAt (loopAt spec_Blame.bd 0) 0) := loop_to mixed hC (by kernel_rfl) (loops_all 0 (by kernel_rfl) fun i hi => absurd hi (Nat.not_lt_zero i)) fun a b h => ⟨k, (spec_Blame.i8 k k a.1.1 a.1.2.1 a.1.2.2.2.1 a.2.1).trans h⟩
theorem spec_Blame.to16 (k : Nat) (hC : AllFun Try.prog (spec_Blame.c k)) : LoopTo Try.prog 61 (spec_Blame.e16 k) (loopAt (loopAt (loopAt spec_Blame.bd 0) 1) 0) := loop_to mixed hC (by kernel_rfl) (loops_all 0 (by kernel_rfl) fun i hi => absurd hi (Nat.not_lt_zero i)) fun a b h => ⟨k, (spec_Blame.i16 k k a.1.1 a.1.2.1 a.1.2.2.2.2.1 a.2.1 a.2.2.1).trans h⟩
theorem spec_Blame.to12 (k : Nat) (hC : AllFun Try.prog (spec_Blame.c k)) : LoopTo Try.prog 61 (spec_Blame.e12 k) (loopAt (loopAt spec_Blame.bd 0) 1) := loop_to mixed hC (by kernel_rfl) (loops_all 1 (by kernel_rfl) fun i hi => by obtain rfl : i = 0 := Nat.lt_one_iff.1 hi; exact ⟨spec_Blame.e16 k, by kernel_rfl, spec_Blame.to16 k hC⟩) fun a b h => ⟨k, (spec_Blame.i12 k k a.1.1 a.1.2.1 a.1.2.2.2.1 a.2.1).trans h⟩
theorem spec_Blame.to4 (k : Nat) (hC : AllFun Try.prog (spec_Blame.c k)) : LoopTo Try.prog 61 (spec_Blame.e4 k) (loopAt spec_Blame.bd 0) := loop_to mixed hC (by kernel_rfl) (loops_all 2 (by kernel_rfl) fun i hi => match i, hi with | 0, _ => ⟨spec_Blame.e8 k, by kernel_rfl, spec_Blame.to8 k hC⟩ | 1, _ => ⟨spec_Blame.e12 k, by kernel_rfl, spec_Blame.to12 k hC⟩ | i + 2, hi => absurd hi (by omega)) fun a b h => ⟨k, (spec_Blame.i4 k k a.1.1 a.1.2.1).trans h⟩
theorem spec_Blame.link (k : Nat) (a0 : List S4) : evFun (mkCx Try.prog (spec_Blame.c k) (spec_Blame.g k) : Cx (List Int)) Try.f32 ((spec_Blame.e k).args.enc (a0, ())) (spec_Blame.e k).ret.dec = spec_Blame.f k a0 := by kernel_rfl
theorem spec_Blame.ok1 (k : Nat) (hC : AllFun Try.prog (spec_Blame.c k)) : Fun Try.prog 32 (spec_Blame.e k).G := fun_ok mixed (body := spec_Blame.bd) Try.func32 (by kernel_rfl) (by kernel_rfl) (by kernel_rfl) hC (loops_all 1 (by kernel_rfl) fun i hi => by obtain rfl : i = 0 := Nat.lt_one_iff.1 hi; exact ⟨spec_Blame.e4 k, by kernel_rfl, spec_Blame.to4 k hC⟩) (spec_Blame.e k) (fun a => Nat.le_of_ble_eq_true (by kernel_rfl)) fun a b h => (spec_Blame.link k a.1).trans h
theorem spec_Blame.ok (k : Nat) : Fun Try.prog 32 (spec_Blame.e k).G := spec_Blame.ok1 k ⟨spec_l6Right.ok k, spec_l6Open.ok k, spec_l6Next.ok k, trivial⟩

noncomputable def laws_toPlaneS.H3 : Hd := ⟨[], [0, 3, 4], []⟩
@[reducible] def laws_toPlaneS.A3 : Type := (((List S4) × Unit × Int × Unit) × ((List S4) × Unit))
noncomputable def laws_toPlaneS.Z3 : SC laws_toPlaneS.A3 := sC laws_toPlaneS.H3 (eCons 0 (tP (aSl .s4)) (eCons 3 (tOsl 1000003) (eCons 4 (tP (aI .i64)) eNil))) (bCons 1000003 (xRow 24 .s4) bNil)
@[reducible] def laws_toPlaneS.B3 : Type := ((Unit × Unit) × ((List S4) × Unit))
noncomputable def laws_toPlaneS.X3 : XC laws_toPlaneS.B3 := xExit 0 (sC ⟨[], [3], []⟩ (eCons 3 (tOsl 1000003) eNil) (bCons 1000003 (xRow 24 .s4) bNil))
noncomputable def laws_toPlaneS.s3 (k : Nat)  (J : (List S4) → Int → (List S4) → Option laws_toPlaneS.B3) (x0 : List S4) (x4 : Int) (b1000003 : List S4) : Option laws_toPlaneS.B3 :=
  if (decide (x4 < (x0.length : Int))) = true then (if 0 ≤ x4 then (if x4 < (x0.length : Int) then ((laws_toPlane.f k  (rd x0 x4)).bind fun t1 => if 0 ≤ x4 then (if x4 < (b1000003.length : Int) then (if x4.toNat < b1000003.length then (J x0 (W (x4 + 1)) (b1000003.set x4.toNat t1)) else none) else none) else none) else none) else none) else (some (((), ()), (b1000003, ())))
noncomputable def laws_toPlaneS.l3 (k : Nat)  : Nat → (List S4) → Int → (List S4) → Option laws_toPlaneS.B3
  | 0, _, _, _ => none
  | n + 1, x0, x4, b1000003 => laws_toPlaneS.s3 k (laws_toPlaneS.l3 k n) x0 x4 b1000003
noncomputable def laws_toPlaneS.f (k : Nat) (a0 : List S4) : Option (List S4) :=
  if 0 ≤ (a0.length : Int) then (if lt47 ((a0.length : Int)).toNat = true then ((laws_toPlaneS.l3 k k a0 0 (List.replicate (a0.length : Int).toNat default : List S4)).bind fun x2 => some x2.2.1) else none) else none
noncomputable def laws_toPlaneS.e (k : Nat) : FE := { α := (List S4) × Unit, β := List S4, args := (lCons (aSl .s4) lNil), ret := (rOwn 24 .s4), f := fun p => laws_toPlaneS.f k p.1 }
noncomputable def laws_toPlaneS.c (k : Nat) : List (Nat × CE) := [(16, .fn (laws_toPlane.e k))]
noncomputable def laws_toPlaneS.bd : Code := match Try.f33.body with | some c => c | none => .skip
noncomputable def laws_toPlaneS.e3 (k : Nat) : LE := { H := laws_toPlaneS.H3, α := laws_toPlaneS.A3, β := laws_toPlaneS.B3, st := laws_toPlaneS.Z3, xt := laws_toPlaneS.X3, f := fun p => laws_toPlaneS.l3 k k p.1.1 p.1.2.2.1 p.2.1 }
noncomputable def laws_toPlaneS.g (k : Nat) : List (Nat × LE) := [(3, laws_toPlaneS.e3 k)]
theorem laws_toPlaneS.t3 (k : Nat) (I : S2 → Option laws_toPlaneS.B3) (x0 : List S4) (x4 : Int) (b1000003 : List S4) : stepOf (mkCx Try.prog (laws_toPlaneS.c k) (laws_toPlaneS.g k) : Cx laws_toPlaneS.B3) (loopAt laws_toPlaneS.bd 0) laws_toPlaneS.H3 laws_toPlaneS.X3.dec I (laws_toPlaneS.Z3.enc ((x0, (), x4, ()), (b1000003, ()))) = laws_toPlaneS.s3 k (fun x0 x4 b1000003 => I (laws_toPlaneS.Z3.enc ((x0, (), x4, ()), (b1000003, ())))) x0 x4 b1000003 := by kernel_rfl
theorem laws_toPlaneS.i3 (k : Nat) : ∀ (n : Nat) (x0 : List S4) (x4 : Int) (b1000003 : List S4), iter (evCode (mkCx Try.prog (laws_toPlaneS.c k) (laws_toPlaneS.g k) : Cx laws_toPlaneS.B3) (loopAt laws_toPlaneS.bd 0)) laws_toPlaneS.H3 laws_toPlaneS.X3.dec n (laws_toPlaneS.Z3.enc ((x0, (), x4, ()), (b1000003, ()))) = laws_toPlaneS.l3 k n x0 x4 b1000003
  | 0, _, _, _ => rfl
  | n + 1, x0, x4, b1000003 => ((iter_step _ _ _ _ n _).trans (laws_toPlaneS.t3 k _ x0 x4 b1000003)).trans (congrArg (fun J => laws_toPlaneS.s3 k J x0 x4 b1000003) (funext fun x0 => funext fun x4 => funext fun b1000003 => laws_toPlaneS.i3 k n x0 x4 b1000003))
theorem laws_toPlaneS.to3 (k : Nat) (hC : AllFun Try.prog (laws_toPlaneS.c k)) : LoopTo Try.prog 23 (laws_toPlaneS.e3 k) (loopAt laws_toPlaneS.bd 0) := loop_to mixed hC (by kernel_rfl) (loops_all 0 (by kernel_rfl) fun i hi => absurd hi (Nat.not_lt_zero i)) fun a b h => ⟨k, (laws_toPlaneS.i3 k k a.1.1 a.1.2.2.1 a.2.1).trans h⟩
theorem laws_toPlaneS.link (k : Nat) (a0 : List S4) : evFun (mkCx Try.prog (laws_toPlaneS.c k) (laws_toPlaneS.g k) : Cx (List S4)) Try.f33 ((laws_toPlaneS.e k).args.enc (a0, ())) (laws_toPlaneS.e k).ret.dec = laws_toPlaneS.f k a0 := by kernel_rfl
theorem laws_toPlaneS.ok1 (k : Nat) (hC : AllFun Try.prog (laws_toPlaneS.c k)) : Fun Try.prog 33 (laws_toPlaneS.e k).G := fun_ok mixed (body := laws_toPlaneS.bd) Try.func33 (by kernel_rfl) (by kernel_rfl) (by kernel_rfl) hC (loops_all 1 (by kernel_rfl) fun i hi => by obtain rfl : i = 0 := Nat.lt_one_iff.1 hi; exact ⟨laws_toPlaneS.e3 k, by kernel_rfl, laws_toPlaneS.to3 k hC⟩) (laws_toPlaneS.e k) (fun a => Nat.le_of_ble_eq_true (by kernel_rfl)) fun a b h => (laws_toPlaneS.link k a.1).trans h
theorem laws_toPlaneS.ok (k : Nat) : Fun Try.prog 33 (laws_toPlaneS.e k).G := laws_toPlaneS.ok1 k ⟨laws_toPlane.ok k, trivial⟩

noncomputable def impl_planesOk.H2 : Hd := ⟨[], [5, 6, 7], []⟩
@[reducible] def impl_planesOk.A2 : Type := (((List S4) × Int × Int × Unit) × (Unit))
noncomputable def impl_planesOk.Z2 : SC impl_planesOk.A2 := sC impl_planesOk.H2 (eCons 5 (tP (aSl .s4)) (eCons 6 (tP (aI .i64)) (eCons 7 (tP (aI .i64)) eNil))) bNil
@[reducible] def impl_planesOk.B2 : Type := ((Bool × Unit) × (Unit)) ⊕ ((Unit) × (Unit))
noncomputable def impl_planesOk.X2 : XC impl_planesOk.B2 := xOr (xRet (sC ⟨[], [2], []⟩ (eCons 2 (tP aB) eNil) bNil)) (xExit 0 (sC ⟨[], [], []⟩ eNil bNil))
noncomputable def impl_planesOk.s2 (k : Nat)  (J : (List S4) → Int → Int → Option impl_planesOk.B2) (x5 : List S4) (x6 : Int) (x7 : Int) : Option impl_planesOk.B2 :=
  if (decide (x7 < x6)) = true then (if 0 ≤ x7 then (if x7 < (x5.length : Int) then ((impl_PlaneOk.f k  (rd x5 x7)).bind fun t1 => if (!t1) = true then (some (.inl ((false, ()), (())))) else (J x5 x6 (W (x7 + 1)))) else none) else none) else (some (.inr ((()), (()))))
noncomputable def impl_planesOk.l2 (k : Nat)  : Nat → (List S4) → Int → Int → Option impl_planesOk.B2
  | 0, _, _, _ => none
  | n + 1, x5, x6, x7 => impl_planesOk.s2 k (impl_planesOk.l2 k n) x5 x6 x7
noncomputable def impl_planesOk.f (k : Nat) (a0 : List S4) : Option Bool :=
  (impl_planesOk.l2 k k a0 (a0.length : Int) 0).bind fun | .inl r2 => (some r2.1.1) | .inr x3 => (some true)
noncomputable def impl_planesOk.e (k : Nat) : FE := { α := (List S4) × Unit, β := Bool, args := (lCons (aSl .s4) lNil), ret := (rOne aB), f := fun p => impl_planesOk.f k p.1 }
noncomputable def impl_planesOk.c (k : Nat) : List (Nat × CE) := [(60, .fn (impl_PlaneOk.e k))]
noncomputable def impl_planesOk.bd : Code := match Try.f79.body with | some c => c | none => .skip
noncomputable def impl_planesOk.e2 (k : Nat) : LE := { H := impl_planesOk.H2, α := impl_planesOk.A2, β := impl_planesOk.B2, st := impl_planesOk.Z2, xt := impl_planesOk.X2, f := fun p => impl_planesOk.l2 k k p.1.1 p.1.2.1 p.1.2.2.1 }
noncomputable def impl_planesOk.g (k : Nat) : List (Nat × LE) := [(2, impl_planesOk.e2 k)]
theorem impl_planesOk.t2 (k : Nat) (I : S2 → Option impl_planesOk.B2) (x5 : List S4) (x6 : Int) (x7 : Int) : stepOf (mkCx Try.prog (impl_planesOk.c k) (impl_planesOk.g k) : Cx impl_planesOk.B2) (loopAt impl_planesOk.bd 0) impl_planesOk.H2 impl_planesOk.X2.dec I (impl_planesOk.Z2.enc ((x5, x6, x7, ()), (()))) = impl_planesOk.s2 k (fun x5 x6 x7 => I (impl_planesOk.Z2.enc ((x5, x6, x7, ()), (())))) x5 x6 x7 := by kernel_rfl
theorem impl_planesOk.i2 (k : Nat) : ∀ (n : Nat) (x5 : List S4) (x6 : Int) (x7 : Int), iter (evCode (mkCx Try.prog (impl_planesOk.c k) (impl_planesOk.g k) : Cx impl_planesOk.B2) (loopAt impl_planesOk.bd 0)) impl_planesOk.H2 impl_planesOk.X2.dec n (impl_planesOk.Z2.enc ((x5, x6, x7, ()), (()))) = impl_planesOk.l2 k n x5 x6 x7
  | 0, _, _, _ => rfl
  | n + 1, x5, x6, x7 => ((iter_step _ _ _ _ n _).trans (impl_planesOk.t2 k _ x5 x6 x7)).trans (congrArg (fun J => impl_planesOk.s2 k J x5 x6 x7) (funext fun x5 => funext fun x6 => funext fun x7 => impl_planesOk.i2 k n x5 x6 x7))
theorem impl_planesOk.to2 (k : Nat) (hC : AllFun Try.prog (impl_planesOk.c k)) : LoopTo Try.prog 15 (impl_planesOk.e2 k) (loopAt impl_planesOk.bd 0) := loop_to mixed hC (by kernel_rfl) (loops_all 0 (by kernel_rfl) fun i hi => absurd hi (Nat.not_lt_zero i)) fun a b h => ⟨k, (impl_planesOk.i2 k k a.1.1 a.1.2.1 a.1.2.2.1).trans h⟩
theorem impl_planesOk.link (k : Nat) (a0 : List S4) : evFun (mkCx Try.prog (impl_planesOk.c k) (impl_planesOk.g k) : Cx Bool) Try.f79 ((impl_planesOk.e k).args.enc (a0, ())) (impl_planesOk.e k).ret.dec = impl_planesOk.f k a0 := by kernel_rfl
theorem impl_planesOk.ok1 (k : Nat) (hC : AllFun Try.prog (impl_planesOk.c k)) : Fun Try.prog 79 (impl_planesOk.e k).G := fun_ok mixed (body := impl_planesOk.bd) Try.func79 (by kernel_rfl) (by kernel_rfl) (by kernel_rfl) hC (loops_all 1 (by kernel_rfl) fun i hi => by obtain rfl : i = 0 := Nat.lt_one_iff.1 hi; exact ⟨impl_planesOk.e2 k, by kernel_rfl, impl_planesOk.to2 k hC⟩) (impl_planesOk.e k) (fun a => Nat.le_of_ble_eq_true (by kernel_rfl)) fun a b h => (impl_planesOk.link k a.1).trans h
theorem impl_planesOk.ok (k : Nat) : Fun Try.prog 79 (impl_planesOk.e k).G := impl_planesOk.ok1 k ⟨impl_PlaneOk.ok k, trivial⟩

noncomputable def impl_open.H2 : Hd := ⟨[], [0, 5, 6, 7], []⟩
@[reducible] def impl_open.A2 : Type := (((List S4) × (List S4) × Int × Int × Unit) × (Unit))
noncomputable def impl_open.Z2 : SC impl_open.A2 := sC impl_open.H2 (eCons 0 (tP (aSl .s4)) (eCons 5 (tP (aSl .s4)) (eCons 6 (tP (aI .i64)) (eCons 7 (tP (aI .i64)) eNil)))) bNil
@[reducible] def impl_open.B2 : Type := ((Bool × Unit) × (Unit)) ⊕ ((Unit) × (Unit))
noncomputable def impl_open.X2 : XC impl_open.B2 := xOr (xRet (sC ⟨[], [2], []⟩ (eCons 2 (tP aB) eNil) bNil)) (xExit 0 (sC ⟨[], [], []⟩ eNil bNil))
noncomputable def impl_open.s2 (k : Nat)  (J : (List S4) → (List S4) → Int → Int → Option impl_open.B2) (x0 : List S4) (x5 : List S4) (x6 : Int) (x7 : Int) : Option impl_open.B2 :=
  if (decide (x7 < x6)) = true then (if 0 ≤ x7 then (if x7 < (x5.length : Int) then (if 0 ≤ x7 then (if x7 ≤ (x0.length : Int) then ((impl_room.f k  (x0.take x7.toNat) (rd x5 x7)).bind fun t1 => if (!t1) = true then (some (.inl ((false, ()), (())))) else (J x0 x5 x6 (W (x7 + 1)))) else none) else none) else none) else none) else (some (.inr ((()), (()))))
noncomputable def impl_open.l2 (k : Nat)  : Nat → (List S4) → (List S4) → Int → Int → Option impl_open.B2
  | 0, _, _, _, _ => none
  | n + 1, x0, x5, x6, x7 => impl_open.s2 k (impl_open.l2 k n) x0 x5 x6 x7
noncomputable def impl_open.f (k : Nat) (a0 : List S4) : Option Bool :=
  (impl_open.l2 k k a0 a0 (a0.length : Int) 0).bind fun | .inl r2 => (some r2.1.1) | .inr x3 => (some true)
noncomputable def impl_open.e (k : Nat) : FE := { α := (List S4) × Unit, β := Bool, args := (lCons (aSl .s4) lNil), ret := (rOne aB), f := fun p => impl_open.f k p.1 }
noncomputable def impl_open.c (k : Nat) : List (Nat × CE) := [(108, .fn (impl_room.e k))]
noncomputable def impl_open.bd : Code := match Try.f80.body with | some c => c | none => .skip
noncomputable def impl_open.e2 (k : Nat) : LE := { H := impl_open.H2, α := impl_open.A2, β := impl_open.B2, st := impl_open.Z2, xt := impl_open.X2, f := fun p => impl_open.l2 k k p.1.1 p.1.2.1 p.1.2.2.1 p.1.2.2.2.1 }
noncomputable def impl_open.g (k : Nat) : List (Nat × LE) := [(2, impl_open.e2 k)]
theorem impl_open.t2 (k : Nat) (I : S2 → Option impl_open.B2) (x0 : List S4) (x5 : List S4) (x6 : Int) (x7 : Int) : stepOf (mkCx Try.prog (impl_open.c k) (impl_open.g k) : Cx impl_open.B2) (loopAt impl_open.bd 0) impl_open.H2 impl_open.X2.dec I (impl_open.Z2.enc ((x0, x5, x6, x7, ()), (()))) = impl_open.s2 k (fun x0 x5 x6 x7 => I (impl_open.Z2.enc ((x0, x5, x6, x7, ()), (())))) x0 x5 x6 x7 := by kernel_rfl
theorem impl_open.i2 (k : Nat) : ∀ (n : Nat) (x0 : List S4) (x5 : List S4) (x6 : Int) (x7 : Int), iter (evCode (mkCx Try.prog (impl_open.c k) (impl_open.g k) : Cx impl_open.B2) (loopAt impl_open.bd 0)) impl_open.H2 impl_open.X2.dec n (impl_open.Z2.enc ((x0, x5, x6, x7, ()), (()))) = impl_open.l2 k n x0 x5 x6 x7
  | 0, _, _, _, _ => rfl
  | n + 1, x0, x5, x6, x7 => ((iter_step _ _ _ _ n _).trans (impl_open.t2 k _ x0 x5 x6 x7)).trans (congrArg (fun J => impl_open.s2 k J x0 x5 x6 x7) (funext fun x0 => funext fun x5 => funext fun x6 => funext fun x7 => impl_open.i2 k n x0 x5 x6 x7))
theorem impl_open.to2 (k : Nat) (hC : AllFun Try.prog (impl_open.c k)) : LoopTo Try.prog 19 (impl_open.e2 k) (loopAt impl_open.bd 0) := loop_to mixed hC (by kernel_rfl) (loops_all 0 (by kernel_rfl) fun i hi => absurd hi (Nat.not_lt_zero i)) fun a b h => ⟨k, (impl_open.i2 k k a.1.1 a.1.2.1 a.1.2.2.1 a.1.2.2.2.1).trans h⟩
theorem impl_open.link (k : Nat) (a0 : List S4) : evFun (mkCx Try.prog (impl_open.c k) (impl_open.g k) : Cx Bool) Try.f80 ((impl_open.e k).args.enc (a0, ())) (impl_open.e k).ret.dec = impl_open.f k a0 := by kernel_rfl
theorem impl_open.ok1 (k : Nat) (hC : AllFun Try.prog (impl_open.c k)) : Fun Try.prog 80 (impl_open.e k).G := fun_ok mixed (body := impl_open.bd) Try.func80 (by kernel_rfl) (by kernel_rfl) (by kernel_rfl) hC (loops_all 1 (by kernel_rfl) fun i hi => by obtain rfl : i = 0 := Nat.lt_one_iff.1 hi; exact ⟨impl_open.e2 k, by kernel_rfl, impl_open.to2 k hC⟩) (impl_open.e k) (fun a => Nat.le_of_ble_eq_true (by kernel_rfl)) fun a b h => (impl_open.link k a.1).trans h
theorem impl_open.ok (k : Nat) : Fun Try.prog 80 (impl_open.e k).G := impl_open.ok1 k ⟨impl_room.ok k, trivial⟩

noncomputable def impl_blamePairs.H5 : Hd := ⟨[], [0, 3, 4, 6, 7], []⟩
@[reducible] def impl_blamePairs.A5 : Type := (((List S4) × Int × Int × Int × Int × Unit) × (Unit))
noncomputable def impl_blamePairs.Z5 : SC impl_blamePairs.A5 := sC impl_blamePairs.H5 (eCons 0 (tP (aSl .s4)) (eCons 3 (tP (aI .i64)) (eCons 4 (tP (aI .i64)) (eCons 6 (tP (aI .i64)) (eCons 7 (tP (aI .i64)) eNil))))) bNil
@[reducible] def impl_blamePairs.B5 : Type := ((Unit × Unit) × ((List Int) × Unit)) ⊕ (((List S4) × Int × Int × Unit) × (Unit))
noncomputable def impl_blamePairs.X5 : XC impl_blamePairs.B5 := xOr (xRet (sC ⟨[], [2], []⟩ (eCons 2 (tOsl 1000002) eNil) (bCons 1000002 (xRow 3 (.i .i64)) bNil))) (xExit 2 (sC ⟨[], [0, 6, 7], []⟩ (eCons 0 (tP (aSl .s4)) (eCons 6 (tP (aI .i64)) (eCons 7 (tP (aI .i64)) eNil))) bNil))
noncomputable def impl_blamePairs.s5 (k : Nat)  (J : (List S4) → Int → Int → Int → Int → Option impl_blamePairs.B5) (x0 : List S4) (x3 : Int) (x4 : Int) (x6 : Int) (x7 : Int) : Option impl_blamePairs.B5 :=
  if (decide (x4 < (x0.length : Int))) = true then (if 0 ≤ x3 then (if x3 < (x0.length : Int) then (if 0 ≤ x4 then (if x4 < (x0.length : Int) then ((impl_clash2.f k  (rd x0 x3) (rd x0 x4)).bind fun t1 => if t1 = true then (some (.inl (((), ()), (([x3, x4] : List Int), ())))) else (J x0 x3 (W (x4 + 1)) x6 x7)) else none) else none) else none) else none) else (some (.inr ((x0, x6, x7, ()), (()))))
noncomputable def impl_blamePairs.l5 (k : Nat)  : Nat → (List S4) → Int → Int → Int → Int → Option impl_blamePairs.B5
  | 0, _, _, _, _, _ => none
  | n + 1, x0, x3, x4, x6, x7 => impl_blamePairs.s5 k (impl_blamePairs.l5 k n) x0 x3 x4 x6 x7
noncomputable def impl_blamePairs.H2 : Hd := ⟨[], [0, 6, 7], []⟩
@[reducible] def impl_blamePairs.A2 : Type := (((List S4) × Int × Int × Unit) × (Unit))
noncomputable def impl_blamePairs.Z2 : SC impl_blamePairs.A2 := sC impl_blamePairs.H2 (eCons 0 (tP (aSl .s4)) (eCons 6 (tP (aI .i64)) (eCons 7 (tP (aI .i64)) eNil))) bNil
@[reducible] def impl_blamePairs.B2 : Type := ((Unit × Unit) × ((List Int) × Unit)) ⊕ ((Unit) × (Unit))
noncomputable def impl_blamePairs.X2 : XC impl_blamePairs.B2 := xOr (xRet (sC ⟨[], [2], []⟩ (eCons 2 (tOsl 1000002) eNil) (bCons 1000002 (xRow 3 (.i .i64)) bNil))) (xExit 0 (sC ⟨[], [], []⟩ eNil bNil))
noncomputable def impl_blamePairs.s2 (k : Nat)  (J : (List S4) → Int → Int → Option impl_blamePairs.B2) (x0 : List S4) (x6 : Int) (x7 : Int) : Option impl_blamePairs.B2 :=
  if (decide (x7 < x6)) = true then ((impl_blamePairs.l5 k k x0 x7 (W (x7 + 1)) x6 x7).bind fun | .inl r2 => (some (.inl (((), ()), (r2.2.1, ())))) | .inr x3 => (J x3.1.1 x3.1.2.1 (W (x3.1.2.2.1 + 1)))) else (some (.inr ((()), (()))))
noncomputable def impl_blamePairs.l2 (k : Nat)  : Nat → (List S4) → Int → Int → Option impl_blamePairs.B2
  | 0, _, _, _ => none
  | n + 1, x0, x6, x7 => impl_blamePairs.s2 k (impl_blamePairs.l2 k n) x0 x6 x7
noncomputable def impl_blamePairs.f (k : Nat) (a0 : List S4) : Option (List Int) :=
  (impl_blamePairs.l2 k k a0 (a0.length : Int) 0).bind fun | .inl r4 => (if r4.2.1.isEmpty = true then none else (some r4.2.1)) | .inr x5 => (some ([] : List Int))
noncomputable def impl_blamePairs.e (k : Nat) : FE := { α := (List S4) × Unit, β := List Int, args := (lCons (aSl .s4) lNil), ret := (rNil 3 (.i .i64)), f := fun p => impl_blamePairs.f k p.1 }
noncomputable def impl_blamePairs.c (k : Nat) : List (Nat × CE) := [(109, .fn (impl_clash2.e k))]
noncomputable def impl_blamePairs.bd : Code := match Try.f81.body with | some c => c | none => .skip
noncomputable def impl_blamePairs.e5 (k : Nat) : LE := { H := impl_blamePairs.H5, α := impl_blamePairs.A5, β := impl_blamePairs.B5, st := impl_blamePairs.Z5, xt := impl_blamePairs.X5, f := fun p => impl_blamePairs.l5 k k p.1.1 p.1.2.1 p.1.2.2.1 p.1.2.2.2.1 p.1.2.2.2.2.1 }
noncomputable def impl_blamePairs.e2 (k : Nat) : LE := { H := impl_blamePairs.H2, α := impl_blamePairs.A2, β := impl_blamePairs.B2, st := impl_blamePairs.Z2, xt := impl_blamePairs.X2, f := fun p => impl_blamePairs.l2 k k p.1.1 p.1.2.1 p.1.2.2.1 }
noncomputable def impl_blamePairs.g (k : Nat) : List (Nat × LE) := [(5, impl_blamePairs.e5 k), (2, impl_blamePairs.e2 k)]
theorem impl_blamePairs.t5 (k : Nat) (I : S2 → Option impl_blamePairs.B5) (x0 : List S4) (x3 : Int) (x4 : Int) (x6 : Int) (x7 : Int) : stepOf (mkCx Try.prog (impl_blamePairs.c k) (impl_blamePairs.g k) : Cx impl_blamePairs.B5) (loopAt (loopAt impl_blamePairs.bd 0) 0) impl_blamePairs.H5 impl_blamePairs.X5.dec I (impl_blamePairs.Z5.enc ((x0, x3, x4, x6, x7, ()), (()))) = impl_blamePairs.s5 k (fun x0 x3 x4 x6 x7 => I (impl_blamePairs.Z5.enc ((x0, x3, x4, x6, x7, ()), (())))) x0 x3 x4 x6 x7 := by kernel_rfl
theorem impl_blamePairs.i5 (k : Nat) : ∀ (n : Nat) (x0 : List S4) (x3 : Int) (x4 : Int) (x6 : Int) (x7 : Int), iter (evCode (mkCx Try.prog (impl_blamePairs.c k) (impl_blamePairs.g k) : Cx impl_blamePairs.B5) (loopAt (loopAt impl_blamePairs.bd 0) 0)) impl_blamePairs.H5 impl_blamePairs.X5.dec n (impl_blamePairs.Z5.enc ((x0, x3, x4, x6, x7, ()), (()))) = impl_blamePairs.l5 k n x0 x3 x4 x6 x7
  | 0, _, _, _, _, _ => rfl
  | n + 1, x0, x3, x4, x6, x7 => ((iter_step _ _ _ _ n _).trans (impl_blamePairs.t5 k _ x0 x3 x4 x6 x7)).trans (congrArg (fun J => impl_blamePairs.s5 k J x0 x3 x4 x6 x7) (funext fun x0 => funext fun x3 => funext fun x4 => funext fun x6 => funext fun x7 => impl_blamePairs.i5 k n x0 x3 x4 x6 x7))
theorem impl_blamePairs.t2 (k : Nat) (I : S2 → Option impl_blamePairs.B2) (x0 : List S4) (x6 : Int) (x7 : Int) : stepOf (mkCx Try.prog (impl_blamePairs.c k) (impl_blamePairs.g k) : Cx impl_blamePairs.B2) (loopAt impl_blamePairs.bd 0) impl_blamePairs.H2 impl_blamePairs.X2.dec I (impl_blamePairs.Z2.enc ((x0, x6, x7, ()), (()))) = impl_blamePairs.s2 k (fun x0 x6 x7 => I (impl_blamePairs.Z2.enc ((x0, x6, x7, ()), (())))) x0 x6 x7 := by kernel_rfl
theorem impl_blamePairs.i2 (k : Nat) : ∀ (n : Nat) (x0 : List S4) (x6 : Int) (x7 : Int), iter (evCode (mkCx Try.prog (impl_blamePairs.c k) (impl_blamePairs.g k) : Cx impl_blamePairs.B2) (loopAt impl_blamePairs.bd 0)) impl_blamePairs.H2 impl_blamePairs.X2.dec n (impl_blamePairs.Z2.enc ((x0, x6, x7, ()), (()))) = impl_blamePairs.l2 k n x0 x6 x7
  | 0, _, _, _ => rfl
  | n + 1, x0, x6, x7 => ((iter_step _ _ _ _ n _).trans (impl_blamePairs.t2 k _ x0 x6 x7)).trans (congrArg (fun J => impl_blamePairs.s2 k J x0 x6 x7) (funext fun x0 => funext fun x6 => funext fun x7 => impl_blamePairs.i2 k n x0 x6 x7))
theorem impl_blamePairs.to5 (k : Nat) (hC : AllFun Try.prog (impl_blamePairs.c k)) : LoopTo Try.prog 31 (impl_blamePairs.e5 k) (loopAt (loopAt impl_blamePairs.bd 0) 0) := loop_to mixed hC (by kernel_rfl) (loops_all 0 (by kernel_rfl) fun i hi => absurd hi (Nat.not_lt_zero i)) fun a b h => ⟨k, (impl_blamePairs.i5 k k a.1.1 a.1.2.1 a.1.2.2.1 a.1.2.2.2.1 a.1.2.2.2.2.1).trans h⟩
theorem impl_blamePairs.to2 (k : Nat) (hC : AllFun Try.prog (impl_blamePairs.c k)) : LoopTo Try.prog 31 (impl_blamePairs.e2 k) (loopAt impl_blamePairs.bd 0) := loop_to mixed hC (by kernel_rfl) (loops_all 1 (by kernel_rfl) fun i hi => by obtain rfl : i = 0 := Nat.lt_one_iff.1 hi; exact ⟨impl_blamePairs.e5 k, by kernel_rfl, impl_blamePairs.to5 k hC⟩) fun a b h => ⟨k, (impl_blamePairs.i2 k k a.1.1 a.1.2.1 a.1.2.2.1).trans h⟩
theorem impl_blamePairs.link (k : Nat) (a0 : List S4) : evFun (mkCx Try.prog (impl_blamePairs.c k) (impl_blamePairs.g k) : Cx (List Int)) Try.f81 ((impl_blamePairs.e k).args.enc (a0, ())) (impl_blamePairs.e k).ret.dec = impl_blamePairs.f k a0 := by kernel_rfl
theorem impl_blamePairs.ok1 (k : Nat) (hC : AllFun Try.prog (impl_blamePairs.c k)) : Fun Try.prog 81 (impl_blamePairs.e k).G := fun_ok mixed (body := impl_blamePairs.bd) Try.func81 (by kernel_rfl) (by kernel_rfl) (by kernel_rfl) hC (loops_all 1 (by kernel_rfl) fun i hi => by obtain rfl : i = 0 := Nat.lt_one_iff.1 hi; exact ⟨impl_blamePairs.e2 k, by kernel_rfl, impl_blamePairs.to2 k hC⟩) (impl_blamePairs.e k) (fun a => Nat.le_of_ble_eq_true (by kernel_rfl)) fun a b h => (impl_blamePairs.link k a.1).trans h
theorem impl_blamePairs.ok (k : Nat) : Fun Try.prog 81 (impl_blamePairs.e k).G := impl_blamePairs.ok1 k ⟨impl_clash2.ok k, trivial⟩

noncomputable def impl_blameTriples.H8 : Hd := ⟨[], [0, 3, 4, 5, 7, 8], []⟩
@[reducible] def impl_blameTriples.A8 : Type := (((List S4) × Int × Int × Int × Int × Int × Unit) × (Unit))
noncomputable def impl_blameTriples.Z8 : SC impl_blameTriples.A8 := sC impl_blameTriples.H8 (eCons 0 (tP (aSl .s4)) (eCons 3 (tP (aI .i64)) (eCons 4 (tP (aI .i64)) (eCons 5 (tP (aI .i64)) (eCons 7 (tP (aI .i64)) (eCons 8 (tP (aI .i64)) eNil)))))) bNil
@[reducible] def impl_blameTriples.B8 : Type := ((Unit × Unit) × ((List Int) × Unit)) ⊕ (((List S4) × Int × Int × Int × Int × Unit) × (Unit))
noncomputable def impl_blameTriples.X8 : XC impl_blameTriples.B8 := xOr (xRet (sC ⟨[], [2], []⟩ (eCons 2 (tOsl 1000002) eNil) (bCons 1000002 (xRow 3 (.i .i64)) bNil))) (xExit 4 (sC ⟨[], [0, 3, 4, 7, 8], []⟩ (eCons 0 (tP (aSl .s4)) (eCons 3 (tP (aI .i64)) (eCons 4 (tP (aI .i64)) (eCons 7 (tP (aI .i64)) (eCons 8 (tP (aI .i64)) eNil))))) bNil))
noncomputable def impl_blameTriples.s8 (k : Nat)  (J : (List S4) → Int → Int → Int → Int → Int → Option impl_blameTriples.B8) (x0 : List S4) (x3 : Int) (x4 : Int) (x5 : Int) (x7 : Int) (x8 : Int) : Option impl_blameTriples.B8 :=
  if (decide (x5 < (x0.length : Int))) = true then (if 0 ≤ x3 then (if x3 < (x0.length : Int) then (if 0 ≤ x4 then (if x4 < (x0.length : Int) then (if 0 ≤ x5 then (if x5 < (x0.length : Int) then ((impl_clash3.f k  (rd x0 x3) (rd x0 x4) (rd x0 x5)).bind fun t1 => if t1 = true then (some (.inl (((), ()), (([x3, x4, x5] : List Int), ())))) else (J x0 x3 x4 (W (x5 + 1)) x7 x8)) else none) else none) else none) else none) else none) else none) else (some (.inr ((x0, x3, x4, x7, x8, ()), (()))))
noncomputable def impl_blameTriples.l8 (k : Nat)  : Nat → (List S4) → Int → Int → Int → Int → Int → Option impl_blameTriples.B8
  | 0, _, _, _, _, _, _ => none
  | n + 1, x0, x3, x4, x5, x7, x8 => impl_blameTriples.s8 k (impl_blameTriples.l8 k n) x0 x3 x4 x5 x7 x8
noncomputable def impl_blameTriples.H5 : Hd := ⟨[], [0, 3, 4, 7, 8], []⟩
@[reducible] def impl_blameTriples.A5 : Type := (((List S4) × Int × Int × Int × Int × Unit) × (Unit))
noncomputable def impl_blameTriples.Z5 : SC impl_blameTriples.A5 := sC impl_blameTriples.H5 (eCons 0 (tP (aSl .s4)) (eCons 3 (tP (aI .i64)) (eCons 4 (tP (aI .i64)) (eCons 7 (tP (aI .i64)) (eCons 8 (tP (aI .i64)) eNil))))) bNil
@[reducible] def impl_blameTriples.B5 : Type := ((Unit × Unit) × ((List Int) × Unit)) ⊕ (((List S4) × Int × Int × Unit) × (Unit))
noncomputable def impl_blameTriples.X5 : XC impl_blameTriples.B5 := xOr (xRet (sC ⟨[], [2], []⟩ (eCons 2 (tOsl 1000002) eNil) (bCons 1000002 (xRow 3 (.i .i64)) bNil))) (xExit 2 (sC ⟨[], [0, 7, 8], []⟩ (eCons 0 (tP (aSl .s4)) (eCons 7 (tP (aI .i64)) (eCons 8 (tP (aI .i64)) eNil))) bNil))
noncomputable def impl_blameTriples.s5 (k : Nat)  (J : (List S4) → Int → Int → Int → Int → Option impl_blameTriples.B5) (x0 : List S4) (x3 : Int) (x4 : Int) (x7 : Int) (x8 : Int) : Option impl_blameTriples.B5 :=
  if (decide (x4 < (x0.length : Int))) = true then ((impl_blameTriples.l8 k k x0 x3 x4 (W (x4 + 1)) x7 x8).bind fun | .inl r2 => (some (.inl (((), ()), (r2.2.1, ())))) | .inr x3 => (J x3.1.1 x3.1.2.1 (W (x3.1.2.2.1 + 1)) x3.1.2.2.2.1 x3.1.2.2.2.2.1)) else (some (.inr ((x0, x7, x8, ()), (()))))
noncomputable def impl_blameTriples.l5 (k : Nat)  : Nat → (List S4) → Int → Int → Int → Int → Option impl_blameTriples.B5
  | 0, _, _, _, _, _ => none
  | n + 1, x0, x3, x4, x7, x8 => impl_blameTriples.s5 k (impl_blameTriples.l5 k n) x0 x3 x4 x7 x8
noncomputable def impl_blameTriples.H2 : Hd := ⟨[], [0, 7, 8], []⟩
@[reducible] def impl_blameTriples.A2 : Type := (((List S4) × Int × Int × Unit) × (Unit))
noncomputable def impl_blameTriples.Z2 : SC impl_blameTriples.A2 := sC impl_blameTriples.H2 (eCons 0 (tP (aSl .s4)) (eCons 7 (tP (aI .i64)) (eCons 8 (tP (aI .i64)) eNil))) bNil
@[reducible] def impl_blameTriples.B2 : Type := ((Unit × Unit) × ((List Int) × Unit)) ⊕ ((Unit) × (Unit))
noncomputable def impl_blameTriples.X2 : XC impl_blameTriples.B2 := xOr (xRet (sC ⟨[], [2], []⟩ (eCons 2 (tOsl 1000002) eNil) (bCons 1000002 (xRow 3 (.i .i64)) bNil))) (xExit 0 (sC ⟨[], [], []⟩ eNil bNil))
noncomputable def impl_blameTriples.s2 (k : Nat)  (J : (List S4) → Int → Int → Option impl_blameTriples.B2) (x0 : List S4) (x7 : Int) (x8 : Int) : Option impl_blameTriples.B2 :=
  if (decide (x8 < x7)) = true then ((impl_blameTriples.l5 k k x0 x8 (W (x8 + 1)) x7 x8).bind fun | .inl r4 => (some (.inl (((), ()), (r4.2.1, ())))) | .inr x5 => (J x5.1.1 x5.1.2.1 (W (x5.1.2.2.1 + 1)))) else (some (.inr ((()), (()))))
noncomputable def impl_blameTriples.l2 (k : Nat)  : Nat → (List S4) → Int → Int → Option impl_blameTriples.B2
  | 0, _, _, _ => none
  | n + 1, x0, x7, x8 => impl_blameTriples.s2 k (impl_blameTriples.l2 k n) x0 x7 x8
noncomputable def impl_blameTriples.f (k : Nat) (a0 : List S4) : Option (List Int) :=
  (impl_blameTriples.l2 k k a0 (a0.length : Int) 0).bind fun | .inl r6 => (if r6.2.1.isEmpty = true then none else (some r6.2.1)) | .inr x7 => (some ([] : List Int))
noncomputable def impl_blameTriples.e (k : Nat) : FE := { α := (List S4) × Unit, β := List Int, args := (lCons (aSl .s4) lNil), ret := (rNil 3 (.i .i64)), f := fun p => impl_blameTriples.f k p.1 }
noncomputable def impl_blameTriples.c (k : Nat) : List (Nat × CE) := [(110, .fn (impl_clash3.e k))]
noncomputable def impl_blameTriples.bd : Code := match Try.f82.body with | some c => c | none => .skip
noncomputable def impl_blameTriples.e8 (k : Nat) : LE := { H := impl_blameTriples.H8, α := impl_blameTriples.A8, β := impl_blameTriples.B8, st := impl_blameTriples.Z8, xt := impl_blameTriples.X8, f := fun p => impl_blameTriples.l8 k k p.1.1 p.1.2.1 p.1.2.2.1 p.1.2.2.2.1 p.1.2.2.2.2.1 p.1.2.2.2.2.2.1 }
noncomputable def impl_blameTriples.e5 (k : Nat) : LE := { H := impl_blameTriples.H5, α := impl_blameTriples.A5, β := impl_blameTriples.B5, st := impl_blameTriples.Z5, xt := impl_blameTriples.X5, f := fun p => impl_blameTriples.l5 k k p.1.1 p.1.2.1 p.1.2.2.1 p.1.2.2.2.1 p.1.2.2.2.2.1 }
noncomputable def impl_blameTriples.e2 (k : Nat) : LE := { H := impl_blameTriples.H2, α := impl_blameTriples.A2, β := impl_blameTriples.B2, st := impl_blameTriples.Z2, xt := impl_blameTriples.X2, f := fun p => impl_blameTriples.l2 k k p.1.1 p.1.2.1 p.1.2.2.1 }
noncomputable def impl_blameTriples.g (k : Nat) : List (Nat × LE) := [(8, impl_blameTriples.e8 k), (5, impl_blameTriples.e5 k), (2, impl_blameTriples.e2 k)]
theorem impl_blameTriples.t8 (k : Nat) (I : S2 → Option impl_blameTriples.B8) (x0 : List S4) (x3 : Int) (x4 : Int) (x5 : Int) (x7 : Int) (x8 : Int) : stepOf (mkCx Try.prog (impl_blameTriples.c k) (impl_blameTriples.g k) : Cx impl_blameTriples.B8) (loopAt (loopAt (loopAt impl_blameTriples.bd 0) 0) 0) impl_blameTriples.H8 impl_blameTriples.X8.dec I (impl_blameTriples.Z8.enc ((x0, x3, x4, x5, x7, x8, ()), (()))) = impl_blameTriples.s8 k (fun x0 x3 x4 x5 x7 x8 => I (impl_blameTriples.Z8.enc ((x0, x3, x4, x5, x7, x8, ()), (())))) x0 x3 x4 x5 x7 x8 := by kernel_rfl
theorem impl_blameTriples.i8 (k : Nat) : ∀ (n : Nat) (x0 : List S4) (x3 : Int) (x4 : Int) (x5 : Int) (x7 : Int) (x8 : Int), iter (evCode (mkCx Try.prog (impl_blameTriples.c k) (impl_blameTriples.g k) : Cx impl_blameTriples.B8) (loopAt (loopAt (loopAt impl_blameTriples.bd 0) 0) 0)) impl_blameTriples.H8 impl_blameTriples.X8.dec n (impl_blameTriples.Z8.enc ((x0, x3, x4, x5, x7, x8, ()), (()))) = impl_blameTriples.l8 k n x0 x3 x4 x5 x7 x8
  | 0, _, _, _, _, _, _ => rfl
  | n + 1, x0, x3, x4, x5, x7, x8 => ((iter_step _ _ _ _ n _).trans (impl_blameTriples.t8 k _ x0 x3 x4 x5 x7 x8)).trans (congrArg (fun J => impl_blameTriples.s8 k J x0 x3 x4 x5 x7 x8) (funext fun x0 => funext fun x3 => funext fun x4 => funext fun x5 => funext fun x7 => funext fun x8 => impl_blameTriples.i8 k n x0 x3 x4 x5 x7 x8))
theorem impl_blameTriples.t5 (k : Nat) (I : S2 → Option impl_blameTriples.B5) (x0 : List S4) (x3 : Int) (x4 : Int) (x7 : Int) (x8 : Int) : stepOf (mkCx Try.prog (impl_blameTriples.c k) (impl_blameTriples.g k) : Cx impl_blameTriples.B5) (loopAt (loopAt impl_blameTriples.bd 0) 0) impl_blameTriples.H5 impl_blameTriples.X5.dec I (impl_blameTriples.Z5.enc ((x0, x3, x4, x7, x8, ()), (()))) = impl_blameTriples.s5 k (fun x0 x3 x4 x7 x8 => I (impl_blameTriples.Z5.enc ((x0, x3, x4, x7, x8, ()), (())))) x0 x3 x4 x7 x8 := by kernel_rfl
theorem impl_blameTriples.i5 (k : Nat) : ∀ (n : Nat) (x0 : List S4) (x3 : Int) (x4 : Int) (x7 : Int) (x8 : Int), iter (evCode (mkCx Try.prog (impl_blameTriples.c k) (impl_blameTriples.g k) : Cx impl_blameTriples.B5) (loopAt (loopAt impl_blameTriples.bd 0) 0)) impl_blameTriples.H5 impl_blameTriples.X5.dec n (impl_blameTriples.Z5.enc ((x0, x3, x4, x7, x8, ()), (()))) = impl_blameTriples.l5 k n x0 x3 x4 x7 x8
  | 0, _, _, _, _, _ => rfl
  | n + 1, x0, x3, x4, x7, x8 => ((iter_step _ _ _ _ n _).trans (impl_blameTriples.t5 k _ x0 x3 x4 x7 x8)).trans (congrArg (fun J => impl_blameTriples.s5 k J x0 x3 x4 x7 x8) (funext fun x0 => funext fun x3 => funext fun x4 => funext fun x7 => funext fun x8 => impl_blameTriples.i5 k n x0 x3 x4 x7 x8))
theorem impl_blameTriples.t2 (k : Nat) (I : S2 → Option impl_blameTriples.B2) (x0 : List S4) (x7 : Int) (x8 : Int) : stepOf (mkCx Try.prog (impl_blameTriples.c k) (impl_blameTriples.g k) : Cx impl_blameTriples.B2) (loopAt impl_blameTriples.bd 0) impl_blameTriples.H2 impl_blameTriples.X2.dec I (impl_blameTriples.Z2.enc ((x0, x7, x8, ()), (()))) = impl_blameTriples.s2 k (fun x0 x7 x8 => I (impl_blameTriples.Z2.enc ((x0, x7, x8, ()), (())))) x0 x7 x8 := by kernel_rfl
theorem impl_blameTriples.i2 (k : Nat) : ∀ (n : Nat) (x0 : List S4) (x7 : Int) (x8 : Int), iter (evCode (mkCx Try.prog (impl_blameTriples.c k) (impl_blameTriples.g k) : Cx impl_blameTriples.B2) (loopAt impl_blameTriples.bd 0)) impl_blameTriples.H2 impl_blameTriples.X2.dec n (impl_blameTriples.Z2.enc ((x0, x7, x8, ()), (()))) = impl_blameTriples.l2 k n x0 x7 x8
  | 0, _, _, _ => rfl
  | n + 1, x0, x7, x8 => ((iter_step _ _ _ _ n _).trans (impl_blameTriples.t2 k _ x0 x7 x8)).trans (congrArg (fun J => impl_blameTriples.s2 k J x0 x7 x8) (funext fun x0 => funext fun x7 => funext fun x8 => impl_blameTriples.i2 k n x0 x7 x8))
theorem impl_blameTriples.to8 (k : Nat) (hC : AllFun Try.prog (impl_blameTriples.c k)) : LoopTo Try.prog 45 (impl_blameTriples.e8 k) (loopAt (loopAt (loopAt impl_blameTriples.bd 0) 0) 0) := loop_to mixed hC (by kernel_rfl) (loops_all 0 (by kernel_rfl) fun i hi => absurd hi (Nat.not_lt_zero i)) fun a b h => ⟨k, (impl_blameTriples.i8 k k a.1.1 a.1.2.1 a.1.2.2.1 a.1.2.2.2.1 a.1.2.2.2.2.1 a.1.2.2.2.2.2.1).trans h⟩
theorem impl_blameTriples.to5 (k : Nat) (hC : AllFun Try.prog (impl_blameTriples.c k)) : LoopTo Try.prog 45 (impl_blameTriples.e5 k) (loopAt (loopAt impl_blameTriples.bd 0) 0) := loop_to mixed hC (by kernel_rfl) (loops_all 1 (by kernel_rfl) fun i hi => by obtain rfl : i = 0 := Nat.lt_one_iff.1 hi; exact ⟨impl_blameTriples.e8 k, by kernel_rfl, impl_blameTriples.to8 k hC⟩) fun a b h => ⟨k, (impl_blameTriples.i5 k k a.1.1 a.1.2.1 a.1.2.2.1 a.1.2.2.2.1 a.1.2.2.2.2.1).trans h⟩
theorem impl_blameTriples.to2 (k : Nat) (hC : AllFun Try.prog (impl_blameTriples.c k)) : LoopTo Try.prog 45 (impl_blameTriples.e2 k) (loopAt impl_blameTriples.bd 0) := loop_to mixed hC (by kernel_rfl) (loops_all 1 (by kernel_rfl) fun i hi => by obtain rfl : i = 0 := Nat.lt_one_iff.1 hi; exact ⟨impl_blameTriples.e5 k, by kernel_rfl, impl_blameTriples.to5 k hC⟩) fun a b h => ⟨k, (impl_blameTriples.i2 k k a.1.1 a.1.2.1 a.1.2.2.1).trans h⟩
theorem impl_blameTriples.link (k : Nat) (a0 : List S4) : evFun (mkCx Try.prog (impl_blameTriples.c k) (impl_blameTriples.g k) : Cx (List Int)) Try.f82 ((impl_blameTriples.e k).args.enc (a0, ())) (impl_blameTriples.e k).ret.dec = impl_blameTriples.f k a0 := by kernel_rfl
theorem impl_blameTriples.ok1 (k : Nat) (hC : AllFun Try.prog (impl_blameTriples.c k)) : Fun Try.prog 82 (impl_blameTriples.e k).G := fun_ok mixed (body := impl_blameTriples.bd) Try.func82 (by kernel_rfl) (by kernel_rfl) (by kernel_rfl) hC (loops_all 1 (by kernel_rfl) fun i hi => by obtain rfl : i = 0 := Nat.lt_one_iff.1 hi; exact ⟨impl_blameTriples.e2 k, by kernel_rfl, impl_blameTriples.to2 k hC⟩) (impl_blameTriples.e k) (fun a => Nat.le_of_ble_eq_true (by kernel_rfl)) fun a b h => (impl_blameTriples.link k a.1).trans h
theorem impl_blameTriples.ok (k : Nat) : Fun Try.prog 82 (impl_blameTriples.e k).G := impl_blameTriples.ok1 k ⟨impl_clash3.ok k, trivial⟩

end Go.Proofs.Ytfgaeenlnkioaaa.G
