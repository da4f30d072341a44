/- Go functions told as plain Lean functions; that the code does what these tell. Printed by a program of the session (evp.py). -/
import Derived.Test.YtfgaeenlnkioaaaEv16
import Derived.Test.YtfgaeenlnkioaaaG1
namespace Go.Proofs.Ytfgaeenlnkioaaa.G
open Go Go.RowKit Go.Proofs Go.Proofs.Ytfgaeenlnkioaaa.Ev
set_option linter.unusedVariables false
set_option maxRecDepth 100000

noncomputable def spec_l6With.H13 : Hd := ⟨[], [0, 3, 5, 6, 7, 8], [3]⟩
@[reducible] def spec_l6With.A13 : Type := (((List S4) × Unit × Int × Int × Int × Int × Unit) × (S4 × Unit))
noncomputable def spec_l6With.Z13 : SC spec_l6With.A13 := sC spec_l6With.H13 (eCons 0 (tP (aSl .s4)) (eCons 3 (tRef 3 0) (eCons 5 (tP (aI .i64)) (eCons 6 (tP (aI .i64)) (eCons 7 (tP (aI .i64)) (eCons 8 (tP (aI .i64)) eNil)))))) (bCons 3 (xVr cS4) bNil)
@[reducible] def spec_l6With.B13 : Type := ((Bool × Unit) × (Unit)) ⊕ (((List S4) × Unit × Int × Int × Int × Unit) × (S4 × Unit))
noncomputable def spec_l6With.X13 : XC spec_l6With.B13 := xOr (xRet (sC ⟨[], [4], []⟩ (eCons 4 (tP aB) eNil) bNil)) (xExit 4 (sC ⟨[], [0, 3, 5, 6, 7], [3]⟩ (eCons 0 (tP (aSl .s4)) (eCons 3 (tRef 3 0) (eCons 5 (tP (aI .i64)) (eCons 6 (tP (aI .i64)) (eCons 7 (tP (aI .i64)) eNil))))) (bCons 3 (xVr cS4) bNil)))
noncomputable def spec_l6With.s13 (k : Nat)  (J : (List S4) → Int → Int → Int → Int → S4 → Option spec_l6With.B13) (x0 : List S4) (x5 : Int) (x6 : Int) (x7 : Int) (x8 : Int) (b3 : S4) : Option spec_l6With.B13 :=
  if (decide (x8 < x5)) = true then (if 0 ≤ x6 then (if x6 < (x0.length : Int) then (if 0 ≤ x7 then (if x7 < (x0.length : Int) then (if 0 ≤ x8 then (if x8 < (x0.length : Int) then ((spec_l6Clash4.f k  (rd x0 x6) (rd x0 x7) (rd x0 x8) b3).bind fun t3 => if t3 = true then (some (.inl ((true, ()), (())))) else (J x0 x5 x6 x7 (W (x8 + 1)) b3)) else none) else none) else none) else none) else none) else none) else (some (.inr ((x0, (), x5, x6, x7, ()), (b3, ()))))
noncomputable def spec_l6With.l13 (k : Nat)  : Nat → (List S4) → Int → Int → Int → Int → S4 → Option spec_l6With.B13
  | 0, _, _, _, _, _, _ => none
  | n + 1, x0, x5, x6, x7, x8, b3 => spec_l6With.s13 k (spec_l6With.l13 k n) x0 x5 x6 x7 x8 b3
noncomputable def spec_l6With.H8 : Hd := ⟨[], [0, 3, 5, 6, 7], [3]⟩
@[reducible] def spec_l6With.A8 : Type := (((List S4) × Unit × Int × Int × Int × Unit) × (S4 × Unit))
noncomputable def spec_l6With.Z8 : SC spec_l6With.A8 := sC spec_l6With.H8 (eCons 0 (tP (aSl .s4)) (eCons 3 (tRef 3 0) (eCons 5 (tP (aI .i64)) (eCons 6 (tP (aI .i64)) (eCons 7 (tP (aI .i64)) eNil))))) (bCons 3 (xVr cS4) bNil)
@[reducible] def spec_l6With.B8 : Type := ((Bool × Unit) × (Unit)) ⊕ (((List S4) × Unit × Int × Int × Unit) × (S4 × Unit))
noncomputable def spec_l6With.X8 : XC spec_l6With.B8 := xOr (xRet (sC ⟨[], [4], []⟩ (eCons 4 (tP aB) eNil) bNil)) (xExit 2 (sC ⟨[], [0, 3, 5, 6], [3]⟩ (eCons 0 (tP (aSl .s4)) (eCons 3 (tRef 3 0) (eCons 5 (tP (aI .i64)) (eCons 6 (tP (aI .i64)) eNil)))) (bCons 3 (xVr cS4) bNil)))
noncomputable def spec_l6With.s8 (k : Nat)  (J : (List S4) → Int → Int → Int → S4 → Option spec_l6With.B8) (x0 : List S4) (x5 : Int) (x6 : Int) (x7 : Int) (b3 : S4) : Option spec_l6With.B8 :=
  if (decide (x7 < x5)) = true then (if 0 ≤ x6 then (if x6 < (x0.length : Int) then (if 0 ≤ x7 then (if x7 < (x0.length : Int) then ((spec_l6Clash3.f k  (rd x0 x6) (rd x0 x7) b3).bind fun t2 => if t2 = true then (some (.inl ((true, ()), (())))) else ((spec_l6With.l13 k k x0 x5 x6 x7 (W (x7 + 1)) b3).bind fun | .inl r4 => (some (.inl ((r4.1.1, ()), (())))) | .inr x5 => (J x5.1.1 x5.1.2.2.1 x5.1.2.2.2.1 (W (x5.1.2.2.2.2.1 + 1)) x5.2.1))) else none) else none) else none) else none) else (some (.inr ((x0, (), x5, x6, ()), (b3, ()))))
noncomputable def spec_l6With.l8 (k : Nat)  : Nat → (List S4) → Int → Int → Int → S4 → Option spec_l6With.B8
  | 0, _, _, _, _, _ => none
  | n + 1, x0, x5, x6, x7, b3 => spec_l6With.s8 k (spec_l6With.l8 k n) x0 x5 x6 x7 b3
noncomputable def spec_l6With.H3 : Hd := ⟨[], [0, 3, 5, 6], [3]⟩
@[reducible] def spec_l6With.A3 : Type := (((List S4) × Unit × Int × Int × Unit) × (S4 × Unit))
noncomputable def spec_l6With.Z3 : SC spec_l6With.A3 := sC spec_l6With.H3 (eCons 0 (tP (aSl .s4)) (eCons 3 (tRef 3 0) (eCons 5 (tP (aI .i64)) (eCons 6 (tP (aI .i64)) eNil)))) (bCons 3 (xVr cS4) bNil)
@[reducible] def spec_l6With.B3 : Type := ((Bool × Unit) × (Unit)) ⊕ ((Unit) × (Unit))
noncomputable def spec_l6With.X3 : XC spec_l6With.B3 := xOr (xRet (sC ⟨[], [4], []⟩ (eCons 4 (tP aB) eNil) bNil)) (xExit 0 (sC ⟨[], [], []⟩ eNil bNil))
noncomputable def spec_l6With.s3 (k : Nat)  (J : (List S4) → Int → Int → S4 → Option spec_l6With.B3) (x0 : List S4) (x5 : Int) (x6 : Int) (b3 : S4) : Option spec_l6With.B3 :=
  if (decide (x6 < x5)) = true then (if 0 ≤ x6 then (if x6 < (x0.length : Int) then ((spec_l6Clash2.f k  (rd x0 x6) b3).bind fun t1 => if t1 = true then (some (.inl ((true, ()), (())))) else ((spec_l6With.l8 k k x0 x5 x6 (W (x6 + 1)) b3).bind fun | .inl r6 => (some (.inl ((r6.1.1, ()), (())))) | .inr x7 => (J x7.1.1 x7.1.2.2.1 (W (x7.1.2.2.2.1 + 1)) x7.2.1))) else none) else none) else (some (.inr ((()), (()))))
noncomputable def spec_l6With.l3 (k : Nat)  : Nat → (List S4) → Int → Int → S4 → Option spec_l6With.B3
  | 0, _, _, _, _ => none
  | n + 1, x0, x5, x6, b3 => spec_l6With.s3 k (spec_l6With.l3 k n) x0 x5 x6 b3
noncomputable def spec_l6With.f (k : Nat) (a0 : List S4) (a1 : S4) : Option Bool :=
  (spec_l6With.l3 k k a0 (a0.length : Int) 0 a1).bind fun | .inl r8 => (some r8.1.1) | .inr x9 => (some false)
noncomputable def spec_l6With.e (k : Nat) : FE := { α := (List S4) × S4 × Unit, β := Bool, args := (lCons (aSl .s4) (lCons aS4 lNil)), ret := (rOne aB), f := fun p => spec_l6With.f k p.1 p.2.1 }
noncomputable def spec_l6With.c (k : Nat) : List (Nat × CE) := [(120, .fn (spec_l6Clash2.e k)), (121, .fn (spec_l6Clash3.e k)), (122, .fn (spec_l6Clash4.e k))]
noncomputable def spec_l6With.bd : Code := match Try.f104.body with | some c => c | none => .skip
noncomputable def spec_l6With.e13 (k : Nat) : LE := { H := spec_l6With.H13, α := spec_l6With.A13, β := spec_l6With.B13, st := spec_l6With.Z13, xt := spec_l6With.X13, f := fun p => spec_l6With.l13 k k p.1.1 p.1.2.2.1 p.1.2.2.2.1 p.1.2.2.2.2.1 p.1.2.2.2.2.2.1 p.2.1 }
noncomputable def spec_l6With.e8 (k : Nat) : LE := { H := spec_l6With.H8, α := spec_l6With.A8, β := spec_l6With.B8, st := spec_l6With.Z8, xt := spec_l6With.X8, f := fun p => spec_l6With.l8 k k p.1.1 p.1.2.2.1 p.1.2.2.2.1 p.1.2.2.2.2.1 p.2.1 }
noncomputable def spec_l6With.e3 (k : Nat) : LE := { H := spec_l6With.H3, α := spec_l6With.A3, β := spec_l6With.B3, st := spec_l6With.Z3, xt := spec_l6With.X3, f := fun p => spec_l6With.l3 k k p.1.1 p.1.2.2.1 p.1.2.2.2.1 p.2.1 }
noncomputable def spec_l6With.g (k : Nat) : List (Nat × LE) := [(13, spec_l6With.e13 k), (8, spec_l6With.e8 k), (3, spec_l6With.e3 k)]
theorem spec_l6With.t13 (k : Nat) (I : S2 → Option spec_l6With.B13) (x0 : List S4) (x5 : Int) (x6 : Int) (x7 : Int) (x8 : Int) (b3 : S4) : stepOf (mkCx Try.prog (spec_l6With.c k) (spec_l6With.g k) : Cx spec_l6With.B13) (loopAt (loopAt (loopAt spec_l6With.bd 0) 0) 0) spec_l6With.H13 spec_l6With.X13.dec I (spec_l6With.Z13.enc ((x0, (), x5, x6, x7, x8, ()), (b3, ()))) = spec_l6With.s13 k (fun x0 x5 x6 x7 x8 b3 => I (spec_l6With.Z13.enc ((x0, (), x5, x6, x7, x8, ()), (b3, ())))) x0 x5 x6 x7 x8 b3 := by kernel_rfl
theorem spec_l6With.i13 (k : Nat) : ∀ (n : Nat) (x0 : List S4) (x5 : Int) (x6 : Int) (x7 : Int) (x8 : Int) (b3 : S4), iter (evCode (mkCx Try.prog (spec_l6With.c k) (spec_l6With.g k) : Cx spec_l6With.B13) (loopAt (loopAt (loopAt spec_l6With.bd 0) 0) 0)) spec_l6With.H13 spec_l6With.X13.dec n (spec_l6With.Z13.enc ((x0, (), x5, x6, x7, x8, ()), (b3, ()))) = spec_l6With.l13 k n x0 x5 x6 x7 x8 b3
  | 0, _, _, _, _, _, _ => rfl
  | n + 1, x0, x5, x6, x7, x8, b3 => ((iter_step _ _ _ _ n _).trans (spec_l6With.t13 k _ x0 x5 x6 x7 x8 b3)).trans (congrArg (fun J => spec_l6With.s13 k J x0 x5 x6 x7 x8 b3) (funext fun x0 => funext fun x5 => funext fun x6 => funext fun x7 => funext fun x8 => funext fun b3 => spec_l6With.i13 k n x0 x5 x6 x7 x8 b3))
theorem spec_l6With.t8 (k : Nat) (I : S2 → Option spec_l6With.B8) (x0 : List S4) (x5 : Int) (x6 : Int) (x7 : Int) (b3 : S4) : stepOf (mkCx Try.prog (spec_l6With.c k) (spec_l6With.g k) : Cx spec_l6With.B8) (loopAt (loopAt spec_l6With.bd 0) 0) spec_l6With.H8 spec_l6With.X8.dec I (spec_l6With.Z8.enc ((x0, (), x5, x6, x7, ()), (b3, ()))) = spec_l6With.s8 k (fun x0 x5 x6 x7 b3 => I (spec_l6With.Z8.enc ((x0, (), x5, x6, x7, ()), (b3, ())))) x0 x5 x6 x7 b3 := by kernel_rfl
theorem spec_l6With.i8 (k : Nat) : ∀ (n : Nat) (x0 : List S4) (x5 : Int) (x6 : Int) (x7 : Int) (b3 : S4), iter (evCode (mkCx Try.prog (spec_l6With.c k) (spec_l6With.g k) : Cx spec_l6With.B8) (loopAt (loopAt spec_l6With.bd 0) 0)) spec_l6With.H8 spec_l6With.X8.dec n (spec_l6With.Z8.enc ((x0, (), x5, x6, x7, ()), (b3, ()))) = spec_l6With.l8 k n x0 x5 x6 x7 b3
  | 0, _, _, _, _, _ => rfl
  | n + 1, x0, x5, x6, x7, b3 => ((iter_step _ _ _ _ n _).trans (spec_l6With.t8 k _ x0 x5 x6 x7 b3)).trans (congrArg (fun J => spec_l6With.s8 k J x0 x5 x6 x7 b3) (funext fun x0 => funext fun x5 => funext fun x6 => funext fun x7 => funext fun b3 => spec_l6With.i8 k n x0 x5 x6 x7 b3))
theorem spec_l6With.t3 (k : Nat) (I : S2 → Option spec_l6With.B3) (x0 : List S4) (x5 : Int) (x6 : Int) (b3 : S4) : stepOf (mkCx Try.prog (spec_l6With.c k) (spec_l6With.g k) : Cx spec_l6With.B3) (loopAt spec_l6With.bd 0) spec_l6With.H3 spec_l6With.X3.dec I (spec_l6With.Z3.enc ((x0, (), x5, x6, ()), (b3, ()))) = spec_l6With.s3 k (fun x0 x5 x6 b3 => I (spec_l6With.Z3.enc ((x0, (), x5, x6, ()), (b3, ())))) x0 x5 x6 b3 := by kernel_rfl
theorem spec_l6With.i3 (k : Nat) : ∀ (n : Nat) (x0 : List S4) (x5 : Int) (x6 : Int) (b3 : S4), iter (evCode (mkCx Try.prog (spec_l6With.c k) (spec_l6With.g k) : Cx spec_l6With.B3) (loopAt spec_l6With.bd 0)) spec_l6With.H3 spec_l6With.X3.dec n (spec_l6With.Z3.enc ((x0, (), x5, x6, ()), (b3, ()))) = spec_l6With.l3 k n x0 x5 x6 b3
  | 0, _, _, _, _ => rfl
  | n + 1, x0, x5, x6, b3 => ((iter_step _ _ _ _ n _).trans (spec_l6With.t3 k _ x0 x5 x6 b3)).trans (congrArg (fun J => spec_l6With.s3 k J x0 x5 x6 b3) (funext fun x0 => funext fun x5 => funext fun x6 => funext fun b3 => spec_l6With.i3 k n x0 x5 x6 b3))
theorem spec_l6With.to13 (k : Nat) (hC : AllFun Try.prog (spec_l6With.c k)) : LoopTo Try.prog 60 (spec_l6With.e13 k) (loopAt (loopAt (loopAt spec_l6With.bd 0) 0) 0) := loop_to mixed hC (by kernel_rfl) (loops_all 0 (by kernel_rfl) fun i hi => absurd hi (Nat.not_lt_zero i)) fun a b h => ⟨k, (spec_l6With.i13 k k a.1.1 a.1.2.2.1 a.1.2.2.2.1 a.1.2.2.2.2.1 a.1.2.2.2.2.2.1 a.2.1).trans h⟩
theorem spec_l6With.to8 (k : Nat) (hC : AllFun Try.prog (spec_l6With.c k)) : LoopTo Try.prog 60 (spec_l6With.e8 k) (loopAt (loopAt spec_l6With.bd 0) 0) := loop_to mixed hC (by kernel_rfl) (loops_all 1 (by kernel_rfl) fun i hi => by obtain rfl : i = 0 := Nat.lt_one_iff.1 hi; exact ⟨spec_l6With.e13 k, by kernel_rfl, spec_l6With.to13 k hC⟩) fun a b h => ⟨k, (spec_l6With.i8 k k a.1.1 a.1.2.2.1 a.1.2.2.2.1 a.1.2.2.2.2.1 a.2.1).trans h⟩
theorem spec_l6With.to3 (k : Nat) (hC : AllFun Try.prog (spec_l6With.c k)) : LoopTo Try.prog 60 (spec_l6With.e3 k) (loopAt spec_l6With.bd 0) := loop_to mixed hC (by kernel_rfl) (loops_all 1 (by kernel_rfl) fun i hi => by obtain rfl : i = 0 := Nat.lt_one_iff.1 hi; exact ⟨spec_l6With.e8 k, by kernel_rfl, spec_l6With.to8 k hC⟩) fun a b h => ⟨k, (spec_l6With.i3 k k a.1.1 a.1.2.2.1 a.1.2.2.2.1 a.2.1).trans h⟩
theorem spec_l6With.link (k : Nat) (a0 : List S4) (a1 : S4) : evFun (mkCx Try.prog (spec_l6With.c k) (spec_l6With.g k) : Cx Bool) Try.f104 ((spec_l6With.e k).args.enc (a0, a1, ())) (spec_l6With.e k).ret.dec = spec_l6With.f k a0 a1 := by kernel_rfl
theorem spec_l6With.ok1 (k : Nat) (hC : AllFun Try.prog (spec_l6With.c k)) : Fun Try.prog 104 (spec_l6With.e k).G := fun_ok mixed (body := spec_l6With.bd) Try.func104 (by kernel_rfl) (by kernel_rfl) (by kernel_rfl) hC (loops_all 1 (by kernel_rfl) fun i hi => by obtain rfl : i = 0 := Nat.lt_one_iff.1 hi; exact ⟨spec_l6With.e3 k, by kernel_rfl, spec_l6With.to3 k hC⟩) (spec_l6With.e k) (fun a => Nat.le_of_ble_eq_true (by kernel_rfl)) fun a b h => (spec_l6With.link k a.1 a.2.1).trans h
theorem spec_l6With.ok (k : Nat) : Fun Try.prog 104 (spec_l6With.e k).G := spec_l6With.ok1 k ⟨spec_l6Clash2.ok k, spec_l6Clash3.ok k, spec_l6Clash4.ok k, trivial⟩

noncomputable def spec_l3Flip.f (k : Nat) (a0 : S4) : Option S4 :=
  some (⟨(W (0 - a0.a)), (W (0 - a0.b)), (W (0 - a0.c)), (W (0 - a0.d))⟩ : S4)
noncomputable def spec_l3Flip.e (k : Nat) : FE := { α := S4 × Unit, β := S4, args := (lCons aS4 lNil), ret := (rOne aS4), f := fun p => spec_l3Flip.f k p.1 }
noncomputable def spec_l3Flip.c (k : Nat) : List (Nat × CE) := []
noncomputable def spec_l3Flip.bd : Code := match Try.f105.body with | some c => c | none => .skip
noncomputable def spec_l3Flip.g (k : Nat) : List (Nat × LE) := []
theorem spec_l3Flip.link (k : Nat) (a0 : S4) : evFun (mkCx Try.prog (spec_l3Flip.c k) (spec_l3Flip.g k) : Cx S4) Try.f105 ((spec_l3Flip.e k).args.enc (a0, ())) (spec_l3Flip.e k).ret.dec = spec_l3Flip.f k a0 := by kernel_rfl
theorem spec_l3Flip.ok1 (k : Nat) (hC : AllFun Try.prog (spec_l3Flip.c k)) : Fun Try.prog 105 (spec_l3Flip.e k).G := fun_ok mixed (body := spec_l3Flip.bd) Try.func105 (by kernel_rfl) (by kernel_rfl) (by kernel_rfl) hC (loops_all 0 (by kernel_rfl) fun i hi => absurd hi (Nat.not_lt_zero i)) (spec_l3Flip.e k) (fun a => Nat.le_of_ble_eq_true (by kernel_rfl)) fun a b h => (spec_l3Flip.link k a.1).trans h
theorem spec_l3Flip.ok (k : Nat) : Fun Try.prog 105 (spec_l3Flip.e k).G := spec_l3Flip.ok1 k trivial

noncomputable def spec_l8Look.fs (k : Nat) (self71 : Tree → (List S4) → Option Bool) (a0 : Tree) (a1 : List S4) : Option Bool :=
  (spec_l8Leaf.f k  (T1 a0)).bind fun t1 => if t1 = true then (some ((a0.p.a == 0) && ((a0.p.b == 0) && ((a0.p.c == 0) && (a0.p.d == 0))))) else (if ((a0.kids.length : Int) != 2) = true then (some false) else (if a0.inn = true then (some false) else ((spec_PlaneOk.f k  a0.p).bind fun t2 => if (!t2) = true then (some false) else (if ((a1.length : Int) == 24) = true then (some false) else ((spec_l6With.f k  a1 a0.p).bind fun t3 => if t3 = true then (some false) else ((spec_l3Flip.f k  a0.p).bind fun t4 => (spec_l6With.f k  a1 t4).bind fun t5 => if t5 = true then (some false) else (if 0 ≤ 0 then (if 0 < (a0.kids.length : Int) then ((spec_l8Path.f k  a1 a0.p).bind fun t6 => (self71  (T1 (rd a0.kids 0)) t6).bind fun t7 => if t7 = true then (if 0 ≤ 1 then (if 1 < (a0.kids.length : Int) then ((spec_l3Flip.f k  a0.p).bind fun t8 => (spec_l8Path.f k  a1 t8).bind fun t9 => (self71  (T1 (rd a0.kids 1)) t9).bind fun t10 => some t10) else none) else none) else (some false)) else none) else none)))))))
noncomputable def spec_l8Look.f : Nat → Tree → (List S4) → Option Bool
  | 0, _, _ => none
  | k + 1, a0, a1 => spec_l8Look.fs k (spec_l8Look.f k) a0 a1
theorem spec_l8Look.fS (k : Nat) (a0 : Tree) (a1 : List S4) : spec_l8Look.f (k + 1) a0 a1 = spec_l8Look.fs k (spec_l8Look.f k) a0 a1 := by first | rfl | rw [spec_l8Look.f]
noncomputable def spec_l8Look.e (k : Nat) : FE := { α := Tree × (List S4) × Unit, β := Bool, args := (lCons aTree (lCons (aSl .s4) lNil)), ret := (rOne aB), f := fun p => spec_l8Look.f k p.1 p.2.1 }
noncomputable def spec_l8Look.c (k : Nat) : List (Nat × CE) := [(103, .fn (spec_l8Leaf.e k)), (57, .fn (spec_PlaneOk.e k)), (104, .fn (spec_l6With.e k)), (105, .fn (spec_l3Flip.e k)), (94, .fn (spec_l8Path.e k)), (71, .fn (spec_l8Look.e k))]
noncomputable def spec_l8Look.bd : Code := match Try.f71.body with | some c => c | none => .skip
noncomputable def spec_l8Look.g (k : Nat) : List (Nat × LE) := []
theorem spec_l8Look.link (k : Nat) (a0 : Tree) (a1 : List S4) : evFun (mkCx Try.prog (spec_l8Look.c k) (spec_l8Look.g k) : Cx Bool) Try.f71 ((spec_l8Look.e (k + 1)).args.enc (a0, a1, ())) (spec_l8Look.e (k + 1)).ret.dec = spec_l8Look.fs k (spec_l8Look.f k) a0 a1 := by kernel_rfl
theorem spec_l8Look.ok1 (k : Nat) (hC : AllFun Try.prog (spec_l8Look.c k)) : Fun Try.prog 71 (spec_l8Look.e (k + 1)).G := fun_ok mixed (body := spec_l8Look.bd) Try.func71 (by kernel_rfl) (by kernel_rfl) (by kernel_rfl) hC (loops_all 0 (by kernel_rfl) fun i hi => absurd hi (Nat.not_lt_zero i)) (spec_l8Look.e (k + 1)) (fun a => Nat.le_of_ble_eq_true (by kernel_rfl)) fun a b h => (spec_l8Look.link k a.1 a.2.1).trans ((spec_l8Look.fS k a.1 a.2.1).symm.trans h)
theorem spec_l8Look.ok : ∀ k, Fun Try.prog 71 (spec_l8Look.e k).G
  | 0 => fun_zero (by kernel_rfl) fun _ => rfl
  | k + 1 => spec_l8Look.ok1 k ⟨spec_l8Leaf.ok k, spec_PlaneOk.ok k, spec_l6With.ok k, spec_l3Flip.ok k, spec_l8Path.ok k, spec_l8Look.ok k, trivial⟩

noncomputable def spec_SolidOk.f (k : Nat) (a0 : Tree) : Option Bool :=
  (spec_l8Count.f k  (T1 a0) 301).bind fun t1 => if (decide (t1 ≤ 300)) = true then ((spec_l8Look.f k  (T1 a0) ([] : List S4)).bind fun t2 => some t2) else (some false)
noncomputable def spec_SolidOk.e (k : Nat) : FE := { α := Tree × Unit, β := Bool, args := (lCons aTree lNil), ret := (rOne aB), f := fun p => spec_SolidOk.f k p.1 }
noncomputable def spec_SolidOk.c (k : Nat) : List (Nat × CE) := [(70, .fn (spec_l8Count.e k)), (71, .fn (spec_l8Look.e k))]
noncomputable def spec_SolidOk.bd : Code := match Try.f25.body with | some c => c | none => .skip
noncomputable def spec_SolidOk.g (k : Nat) : List (Nat × LE) := []
theorem spec_SolidOk.link (k : Nat) (a0 : Tree) : evFun (mkCx Try.prog (spec_SolidOk.c k) (spec_SolidOk.g k) : Cx Bool) Try.f25 ((spec_SolidOk.e k).args.enc (a0, ())) (spec_SolidOk.e k).ret.dec = spec_SolidOk.f k a0 := by kernel_rfl
theorem spec_SolidOk.ok1 (k : Nat) (hC : AllFun Try.prog (spec_SolidOk.c k)) : Fun Try.prog 25 (spec_SolidOk.e k).G := fun_ok mixed (body := spec_SolidOk.bd) Try.func25 (by kernel_rfl) (by kernel_rfl) (by kernel_rfl) hC (loops_all 0 (by kernel_rfl) fun i hi => absurd hi (Nat.not_lt_zero i)) (spec_SolidOk.e k) (fun a => Nat.le_of_ble_eq_true (by kernel_rfl)) fun a b h => (spec_SolidOk.link k a.1).trans h
theorem spec_SolidOk.ok (k : Nat) : Fun Try.prog 25 (spec_SolidOk.e k).G := spec_SolidOk.ok1 k ⟨spec_l8Count.ok k, spec_l8Look.ok k, trivial⟩

noncomputable def impl_with.f (k : Nat) (a0 : List S4) (a1 : S4) : Option (List S4) :=
  if lt47 (([] : List S4).length + a0.length) = true then (if lt47 ((([] : List S4) ++ a0).length + ([a1] : List S4).length) = true then (some ((([] : List S4) ++ a0) ++ ([a1] : List S4))) else none) else none
noncomputable def impl_with.e (k : Nat) : FE := { α := (List S4) × S4 × Unit, β := List S4, args := (lCons (aSl .s4) (lCons aS4 lNil)), ret := (rOwn 24 .s4), f := fun p => impl_with.f k p.1 p.2.1 }
noncomputable def impl_with.c (k : Nat) : List (Nat × CE) := []
noncomputable def impl_with.bd : Code := match Try.f95.body with | some c => c | none => .skip
noncomputable def impl_with.g (k : Nat) : List (Nat × LE) := []
theorem impl_with.link (k : Nat) (a0 : List S4) (a1 : S4) : evFun (mkCx Try.prog (impl_with.c k) (impl_with.g k) : Cx (List S4)) Try.f95 ((impl_with.e k).args.enc (a0, a1, ())) (impl_with.e k).ret.dec = impl_with.f k a0 a1 := by kernel_rfl
theorem impl_with.ok1 (k : Nat) (hC : AllFun Try.prog (impl_with.c k)) : Fun Try.prog 95 (impl_with.e k).G := fun_ok mixed (body := impl_with.bd) Try.func95 (by kernel_rfl) (by kernel_rfl) (by kernel_rfl) hC (loops_all 0 (by kernel_rfl) fun i hi => absurd hi (Nat.not_lt_zero i)) (impl_with.e k) (fun a => Nat.le_of_ble_eq_true (by kernel_rfl)) fun a b h => (impl_with.link k a.1 a.2.1).trans h
theorem impl_with.ok (k : Nat) : Fun Try.prog 95 (impl_with.e k).G := impl_with.ok1 k trivial

noncomputable def impl_Solid_isLeaf.f (k : Nat) (a0 : Tree) : Option Bool :=
  some ((a0.kids.length : Int) == 0)
noncomputable def impl_Solid_isLeaf.e (k : Nat) : FE := { α := Tree × Unit, β := Bool, args := (lCons aTreeP lNil), ret := (rOne aB), f := fun p => impl_Solid_isLeaf.f k p.1 }
noncomputable def impl_Solid_isLeaf.c (k : Nat) : List (Nat × CE) := []
noncomputable def impl_Solid_isLeaf.bd : Code := match Try.f106.body with | some c => c | none => .skip
noncomputable def impl_Solid_isLeaf.g (k : Nat) : List (Nat × LE) := []
theorem impl_Solid_isLeaf.link (k : Nat) (a0 : Tree) : evFun (mkCx Try.prog (impl_Solid_isLeaf.c k) (impl_Solid_isLeaf.g k) : Cx Bool) Try.f106 ((impl_Solid_isLeaf.e k).args.enc (a0, ())) (impl_Solid_isLeaf.e k).ret.dec = impl_Solid_isLeaf.f k a0 := by kernel_rfl
theorem impl_Solid_isLeaf.ok1 (k : Nat) (hC : AllFun Try.prog (impl_Solid_isLeaf.c k)) : Fun Try.prog 106 (impl_Solid_isLeaf.e k).G := fun_ok mixed (body := impl_Solid_isLeaf.bd) Try.func106 (by kernel_rfl) (by kernel_rfl) (by kernel_rfl) hC (loops_all 0 (by kernel_rfl) fun i hi => absurd hi (Nat.not_lt_zero i)) (impl_Solid_isLeaf.e k) (fun a => Nat.le_of_ble_eq_true (by kernel_rfl)) fun a b h => (impl_Solid_isLeaf.link k a.1).trans h
theorem impl_Solid_isLeaf.ok (k : Nat) : Fun Try.prog 106 (impl_Solid_isLeaf.e k).G := impl_Solid_isLeaf.ok1 k trivial

noncomputable def impl_flip.f (k : Nat) (a0 : S4) : Option S4 :=
  some (⟨(W (0 - a0.a)), (W (0 - a0.b)), (W (0 - a0.c)), (W (0 - a0.d))⟩ : S4)
noncomputable def impl_flip.e (k : Nat) : FE := { α := S4 × Unit, β := S4, args := (lCons aS4 lNil), ret := (rOne aS4), f := fun p => impl_flip.f k p.1 }
noncomputable def impl_flip.c (k : Nat) : List (Nat × CE) := []
noncomputable def impl_flip.bd : Code := match Try.f107.body with | some c => c | none => .skip
noncomputable def impl_flip.g (k : Nat) : List (Nat × LE) := []
theorem impl_flip.link (k : Nat) (a0 : S4) : evFun (mkCx Try.prog (impl_flip.c k) (impl_flip.g k) : Cx S4) Try.f107 ((impl_flip.e k).args.enc (a0, ())) (impl_flip.e k).ret.dec = impl_flip.f k a0 := by kernel_rfl
theorem impl_flip.ok1 (k : Nat) (hC : AllFun Try.prog (impl_flip.c k)) : Fun Try.prog 107 (impl_flip.e k).G := fun_ok mixed (body := impl_flip.bd) Try.func107 (by kernel_rfl) (by kernel_rfl) (by kernel_rfl) hC (loops_all 0 (by kernel_rfl) fun i hi => absurd hi (Nat.not_lt_zero i)) (impl_flip.e k) (fun a => Nat.le_of_ble_eq_true (by kernel_rfl)) fun a b h => (impl_flip.link k a.1).trans h
theorem impl_flip.ok (k : Nat) : Fun Try.prog 107 (impl_flip.e k).G := impl_flip.ok1 k trivial

noncomputable def impl_normal.f (k : Nat) (a0 : S4) : Option S3 :=
  some (⟨a0.a, a0.b, a0.c⟩ : S3)
noncomputable def impl_normal.e (k : Nat) : FE := { α := S4 × Unit, β := S3, args := (lCons aS4 lNil), ret := (rOne aS3), f := fun p => impl_normal.f k p.1 }
noncomputable def impl_normal.c (k : Nat) : List (Nat × CE) := []
noncomputable def impl_normal.bd : Code := match Try.f124.body with | some c => c | none => .skip
noncomputable def impl_normal.g (k : Nat) : List (Nat × LE) := []
theorem impl_normal.link (k : Nat) (a0 : S4) : evFun (mkCx Try.prog (impl_normal.c k) (impl_normal.g k) : Cx S3) Try.f124 ((impl_normal.e k).args.enc (a0, ())) (impl_normal.e k).ret.dec = impl_normal.f k a0 := by kernel_rfl
theorem impl_normal.ok1 (k : Nat) (hC : AllFun Try.prog (impl_normal.c k)) : Fun Try.prog 124 (impl_normal.e k).G := fun_ok mixed (body := impl_normal.bd) Try.func124 (by kernel_rfl) (by kernel_rfl) (by kernel_rfl) hC (loops_all 0 (by kernel_rfl) fun i hi => absurd hi (Nat.not_lt_zero i)) (impl_normal.e k) (fun a => Nat.le_of_ble_eq_true (by kernel_rfl)) fun a b h => (impl_normal.link k a.1).trans h
theorem impl_normal.ok (k : Nat) : Fun Try.prog 124 (impl_normal.e k).G := impl_normal.ok1 k trivial

noncomputable def impl_crossOf.f (k : Nat) (a0 : S3) (a1 : S3) : Option S3 :=
  some (⟨(W ((W (a0.y * a1.z)) - (W (a0.z * a1.y)))), (W ((W (a0.z * a1.x)) - (W (a0.x * a1.z)))), (W ((W (a0.x * a1.y)) - (W (a0.y * a1.x))))⟩ : S3)
noncomputable def impl_crossOf.e (k : Nat) : FE := { α := S3 × S3 × Unit, β := S3, args := (lCons aS3 (lCons aS3 lNil)), ret := (rOne aS3), f := fun p => impl_crossOf.f k p.1 p.2.1 }
noncomputable def impl_crossOf.c (k : Nat) : List (Nat × CE) := []
noncomputable def impl_crossOf.bd : Code := match Try.f126.body with | some c => c | none => .skip
noncomputable def impl_crossOf.g (k : Nat) : List (Nat × LE) := []
theorem impl_crossOf.link (k : Nat) (a0 : S3) (a1 : S3) : evFun (mkCx Try.prog (impl_crossOf.c k) (impl_crossOf.g k) : Cx S3) Try.f126 ((impl_crossOf.e k).args.enc (a0, a1, ())) (impl_crossOf.e k).ret.dec = impl_crossOf.f k a0 a1 := by kernel_rfl
theorem impl_crossOf.ok1 (k : Nat) (hC : AllFun Try.prog (impl_crossOf.c k)) : Fun Try.prog 126 (impl_crossOf.e k).G := fun_ok mixed (body := impl_crossOf.bd) Try.func126 (by kernel_rfl) (by kernel_rfl) (by kernel_rfl) hC (loops_all 0 (by kernel_rfl) fun i hi => absurd hi (Nat.not_lt_zero i)) (impl_crossOf.e k) (fun a => Nat.le_of_ble_eq_true (by kernel_rfl)) fun a b h => (impl_crossOf.link k a.1 a.2.1).trans h
theorem impl_crossOf.ok (k : Nat) : Fun Try.prog 126 (impl_crossOf.e k).G := impl_crossOf.ok1 k trivial

noncomputable def impl_dot.f (k : Nat) (a0 : S3) (a1 : S3) : Option Int :=
  some (W ((W ((W (a0.x * a1.x)) + (W (a0.y * a1.y)))) + (W (a0.z * a1.z))))
noncomputable def impl_dot.e (k : Nat) : FE := { α := S3 × S3 × Unit, β := Int, args := (lCons aS3 (lCons aS3 lNil)), ret := (rOne (aI .i64)), f := fun p => impl_dot.f k p.1 p.2.1 }
noncomputable def impl_dot.c (k : Nat) : List (Nat × CE) := []
noncomputable def impl_dot.bd : Code := match Try.f128.body with | some c => c | none => .skip
noncomputable def impl_dot.g (k : Nat) : List (Nat × LE) := []
theorem impl_dot.link (k : Nat) (a0 : S3) (a1 : S3) : evFun (mkCx Try.prog (impl_dot.c k) (impl_dot.g k) : Cx Int) Try.f128 ((impl_dot.e k).args.enc (a0, a1, ())) (impl_dot.e k).ret.dec = impl_dot.f k a0 a1 := by kernel_rfl
theorem impl_dot.ok1 (k : Nat) (hC : AllFun Try.prog (impl_dot.c k)) : Fun Try.prog 128 (impl_dot.e k).G := fun_ok mixed (body := impl_dot.bd) Try.func128 (by kernel_rfl) (by kernel_rfl) (by kernel_rfl) hC (loops_all 0 (by kernel_rfl) fun i hi => absurd hi (Nat.not_lt_zero i)) (impl_dot.e k) (fun a => Nat.le_of_ble_eq_true (by kernel_rfl)) fun a b h => (impl_dot.link k a.1 a.2.1).trans h
theorem impl_dot.ok (k : Nat) : Fun Try.prog 128 (impl_dot.e k).G := impl_dot.ok1 k trivial

noncomputable def cmp_isNaN_int.f (k : Nat) (a0 : Int) : Option Bool :=
  some (a0 != a0)
noncomputable def cmp_isNaN_int.e (k : Nat) : FE := { α := Int × Unit, β := Bool, args := (lCons (aI .i64) lNil), ret := (rOne aB), f := fun p => cmp_isNaN_int.f k p.1 }
noncomputable def cmp_isNaN_int.c (k : Nat) : List (Nat × CE) := []
noncomputable def cmp_isNaN_int.bd : Code := match Try.f137.body with | some c => c | none => .skip
noncomputable def cmp_isNaN_int.g (k : Nat) : List (Nat × LE) := []
theorem cmp_isNaN_int.link (k : Nat) (a0 : Int) : evFun (mkCx Try.prog (cmp_isNaN_int.c k) (cmp_isNaN_int.g k) : Cx Bool) Try.f137 ((cmp_isNaN_int.e k).args.enc (a0, ())) (cmp_isNaN_int.e k).ret.dec = cmp_isNaN_int.f k a0 := by kernel_rfl
theorem cmp_isNaN_int.ok1 (k : Nat) (hC : AllFun Try.prog (cmp_isNaN_int.c k)) : Fun Try.prog 137 (cmp_isNaN_int.e k).G := fun_ok mixed (body := cmp_isNaN_int.bd) Try.func137 (by kernel_rfl) (by kernel_rfl) (by kernel_rfl) hC (loops_all 0 (by kernel_rfl) fun i hi => absurd hi (Nat.not_lt_zero i)) (cmp_isNaN_int.e k) (fun a => Nat.le_of_ble_eq_true (by kernel_rfl)) fun a b h => (cmp_isNaN_int.link k a.1).trans h
theorem cmp_isNaN_int.ok (k : Nat) : Fun Try.prog 137 (cmp_isNaN_int.e k).G := cmp_isNaN_int.ok1 k trivial

noncomputable def cmp_Compare_int.f (k : Nat) (a0 : Int) (a1 : Int) : Option Int :=
  (cmp_isNaN_int.f k  a0).bind fun t1 => (cmp_isNaN_int.f k  a1).bind fun t2 => if t1 = true then (if t2 = true then (some 0) else (some (-1))) else (if t2 = true then (some 1) else (if (decide (a0 < a1)) = true then (some (-1)) else (if (decide (a0 > a1)) = true then (some 1) else (some 0))))
noncomputable def cmp_Compare_int.e (k : Nat) : FE := { α := Int × Int × Unit, β := Int, args := (lCons (aI .i64) (lCons (aI .i64) lNil)), ret := (rOne (aI .i64)), f := fun p => cmp_Compare_int.f k p.1 p.2.1 }
noncomputable def cmp_Compare_int.c (k : Nat) : List (Nat × CE) := [(137, .fn (cmp_isNaN_int.e k))]
noncomputable def cmp_Compare_int.bd : Code := match Try.f136.body with | some c => c | none => .skip
noncomputable def cmp_Compare_int.g (k : Nat) : List (Nat × LE) := []
theorem cmp_Compare_int.link (k : Nat) (a0 : Int) (a1 : Int) : evFun (mkCx Try.prog (cmp_Compare_int.c k) (cmp_Compare_int.g k) : Cx Int) Try.f136 ((cmp_Compare_int.e k).args.enc (a0, a1, ())) (cmp_Compare_int.e k).ret.dec = cmp_Compare_int.f k a0 a1 := by kernel_rfl
theorem cmp_Compare_int.ok1 (k : Nat) (hC : AllFun Try.prog (cmp_Compare_int.c k)) : Fun Try.prog 136 (cmp_Compare_int.e k).G := fun_ok mixed (body := cmp_Compare_int.bd) Try.func136 (by kernel_rfl) (by kernel_rfl) (by kernel_rfl) hC (loops_all 0 (by kernel_rfl) fun i hi => absurd hi (Nat.not_lt_zero i)) (cmp_Compare_int.e k) (fun a => Nat.le_of_ble_eq_true (by kernel_rfl)) fun a b h => (cmp_Compare_int.link k a.1 a.2.1).trans h
theorem cmp_Compare_int.ok (k : Nat) : Fun Try.prog 136 (cmp_Compare_int.e k).G := cmp_Compare_int.ok1 k ⟨cmp_isNaN_int.ok k, trivial⟩

noncomputable def impl_sign.f (k : Nat) (a0 : Int) : Option Int :=
  (cmp_Compare_int.f k  a0 0).bind fun t1 => some t1
noncomputable def impl_sign.e (k : Nat) : FE := { α := Int × Unit, β := Int, args := (lCons (aI .i64) lNil), ret := (rOne (aI .i64)), f := fun p => impl_sign.f k p.1 }
noncomputable def impl_sign.c (k : Nat) : List (Nat × CE) := [(136, .fn (cmp_Compare_int.e k))]
noncomputable def impl_sign.bd : Code := match Try.f131.body with | some c => c | none => .skip
noncomputable def impl_sign.g (k : Nat) : List (Nat × LE) := []
theorem impl_sign.link (k : Nat) (a0 : Int) : evFun (mkCx Try.prog (impl_sign.c k) (impl_sign.g k) : Cx Int) Try.f131 ((impl_sign.e k).args.enc (a0, ())) (impl_sign.e k).ret.dec = impl_sign.f k a0 := by kernel_rfl
theorem impl_sign.ok1 (k : Nat) (hC : AllFun Try.prog (impl_sign.c k)) : Fun Try.prog 131 (impl_sign.e k).G := fun_ok mixed (body := impl_sign.bd) Try.func131 (by kernel_rfl) (by kernel_rfl) (by kernel_rfl) hC (loops_all 0 (by kernel_rfl) fun i hi => absurd hi (Nat.not_lt_zero i)) (impl_sign.e k) (fun a => Nat.le_of_ble_eq_true (by kernel_rfl)) fun a b h => (impl_sign.link k a.1).trans h
theorem impl_sign.ok (k : Nat) : Fun Try.prog 131 (impl_sign.e k).G := impl_sign.ok1 k ⟨cmp_Compare_int.ok k, trivial⟩

noncomputable def impl_parallel.f (k : Nat) (a0 : S4) (a1 : S4) : Option Int :=
  (impl_normal.f k  a0).bind fun t1 => (impl_normal.f k  a1).bind fun t2 => (impl_crossOf.f k  t1 t2).bind fun t3 => if (!((t3.x == 0) && ((t3.y == 0) && (t3.z == 0)))) = true then (some 0) else ((impl_normal.f k  a0).bind fun t4 => (impl_normal.f k  a1).bind fun t5 => (impl_dot.f k  t4 t5).bind fun t6 => (impl_sign.f k  t6).bind fun t7 => some t7)
noncomputable def impl_parallel.e (k : Nat) : FE := { α := S4 × S4 × Unit, β := Int, args := (lCons aS4 (lCons aS4 lNil)), ret := (rOne (aI .i64)), f := fun p => impl_parallel.f k p.1 p.2.1 }
noncomputable def impl_parallel.c (k : Nat) : List (Nat × CE) := [(124, .fn (impl_normal.e k)), (126, .fn (impl_crossOf.e k)), (128, .fn (impl_dot.e k)), (131, .fn (impl_sign.e k))]
noncomputable def impl_parallel.bd : Code := match Try.f123.body with | some c => c | none => .skip
noncomputable def impl_parallel.g (k : Nat) : List (Nat × LE) := []
theorem impl_parallel.link (k : Nat) (a0 : S4) (a1 : S4) : evFun (mkCx Try.prog (impl_parallel.c k) (impl_parallel.g k) : Cx Int) Try.f123 ((impl_parallel.e k).args.enc (a0, a1, ())) (impl_parallel.e k).ret.dec = impl_parallel.f k a0 a1 := by kernel_rfl
theorem impl_parallel.ok1 (k : Nat) (hC : AllFun Try.prog (impl_parallel.c k)) : Fun Try.prog 123 (impl_parallel.e k).G := fun_ok mixed (body := impl_parallel.bd) Try.func123 (by kernel_rfl) (by kernel_rfl) (by kernel_rfl) hC (loops_all 0 (by kernel_rfl) fun i hi => absurd hi (Nat.not_lt_zero i)) (impl_parallel.e k) (fun a => Nat.le_of_ble_eq_true (by kernel_rfl)) fun a b h => (impl_parallel.link k a.1 a.2.1).trans h
theorem impl_parallel.ok (k : Nat) : Fun Try.prog 123 (impl_parallel.e k).G := impl_parallel.ok1 k ⟨impl_normal.ok k, impl_crossOf.ok k, impl_dot.ok k, impl_sign.ok k, trivial⟩

noncomputable def impl_clash2.H5 : Hd := ⟨[], [2, 3, 5, 6, 16], [2, 3, 5, 6]⟩
@[reducible] def impl_clash2.A5 : Type := ((Unit × Unit × Unit × Unit × Int × Unit) × (S4 × S4 × S3 × S3 × Unit))
noncomputable def impl_clash2.Z5 : SC impl_clash2.A5 := sC impl_clash2.H5 (eCons 2 (tRef 2 0) (eCons 3 (tRef 3 0) (eCons 5 (tRef 5 0) (eCons 6 (tRef 6 0) (eCons 16 (tP (aI .i64)) eNil))))) (bCons 2 (xVr cS4) (bCons 3 (xVr cS4) (bCons 5 (xVr cS3) (bCons 6 (xVr cS3) bNil))))
@[reducible] def impl_clash2.B5 : Type := ((Bool × Unit) × (Unit)) ⊕ ((Unit) × (Unit))
noncomputable def impl_clash2.X5 : XC impl_clash2.B5 := xOr (xRet (sC ⟨[], [4], []⟩ (eCons 4 (tP aB) eNil) bNil)) (xExit 0 (sC ⟨[], [], []⟩ eNil bNil))
noncomputable def impl_clash2.s5 (k : Nat)  (J : Int → S4 → S4 → S3 → S3 → Option impl_clash2.B5) (x16 : Int) (b2 : S4) (b3 : S4) (b5 : S3) (b6 : S3) : Option impl_clash2.B5 :=
  if (decide (x16 < 3)) = true then (if 0 ≤ x16 then (if x16 < 3 then (if ((sel [b5.x, b5.y, b5.z] x16) != 0) = true then (if 0 ≤ x16 then (if x16 < 3 then (if 0 ≤ x16 then (if x16 < 3 then (if 0 ≤ x16 then (if x16 < 3 then (if 0 ≤ x16 then (if x16 < 3 then (some (.inl (((decide ((W ((W (b2.d * (if (W (0 - (sel [b6.x, b6.y, b6.z] x16))) > (sel [b6.x, b6.y, b6.z] x16) then (W (0 - (sel [b6.x, b6.y, b6.z] x16))) else (sel [b6.x, b6.y, b6.z] x16)))) + (W (b3.d * (if (W (0 - (sel [b5.x, b5.y, b5.z] x16))) > (sel [b5.x, b5.y, b5.z] x16) then (W (0 - (sel [b5.x, b5.y, b5.z] x16))) else (sel [b5.x, b5.y, b5.z] x16)))))) ≤ 0)), ()), (())))) else none) else none) else none) else none) else none) else none) else none) else none) else (J (W (x16 + 1)) b2 b3 b5 b6)) else none) else none) else (some (.inr ((()), (()))))
noncomputable def impl_clash2.l5 (k : Nat)  : Nat → Int → S4 → S4 → S3 → S3 → Option impl_clash2.B5
  | 0, _, _, _, _, _ => none
  | n + 1, x16, b2, b3, b5, b6 => impl_clash2.s5 k (impl_clash2.l5 k n) x16 b2 b3 b5 b6
noncomputable def impl_clash2.f (k : Nat) (a0 : S4) (a1 : S4) : Option Bool :=
  (impl_parallel.f k  a0 a1).bind fun t1 => if (decide (t1 ≥ 0)) = true then (some false) else ((impl_normal.f k  a0).bind fun t2 => (impl_normal.f k  a1).bind fun t3 => (impl_clash2.l5 k k 0 a0 a1 t2 t3).bind fun | .inl r4 => (some r4.1.1) | .inr x5 => (some false))
noncomputable def impl_clash2.e (k : Nat) : FE := { α := S4 × S4 × Unit, β := Bool, args := (lCons aS4 (lCons aS4 lNil)), ret := (rOne aB), f := fun p => impl_clash2.f k p.1 p.2.1 }
noncomputable def impl_clash2.c (k : Nat) : List (Nat × CE) := [(123, .fn (impl_parallel.e k)), (124, .fn (impl_normal.e k))]
noncomputable def impl_clash2.bd : Code := match Try.f109.body with | some c => c | none => .skip
noncomputable def impl_clash2.e5 (k : Nat) : LE := { H := impl_clash2.H5, α := impl_clash2.A5, β := impl_clash2.B5, st := impl_clash2.Z5, xt := impl_clash2.X5, f := fun p => impl_clash2.l5 k k p.1.2.2.2.2.1 p.2.1 p.2.2.1 p.2.2.2.1 p.2.2.2.2.1 }
noncomputable def impl_clash2.g (k : Nat) : List (Nat × LE) := [(5, impl_clash2.e5 k)]
theorem impl_clash2.t5 (k : Nat) (I : S2 → Option impl_clash2.B5) (x16 : Int) (b2 : S4) (b3 : S4) (b5 : S3) (b6 : S3) : stepOf (mkCx Try.prog (impl_clash2.c k) (impl_clash2.g k) : Cx impl_clash2.B5) (loopAt impl_clash2.bd 0) impl_clash2.H5 impl_clash2.X5.dec I (impl_clash2.Z5.enc (((), (), (), (), x16, ()), (b2, b3, b5, b6, ()))) = impl_clash2.s5 k (fun x16 b2 b3 b5 b6 => I (impl_clash2.Z5.enc (((), (), (), (), x16, ()), (b2, b3, b5, b6, ())))) x16 b2 b3 b5 b6 := by kernel_rfl
theorem impl_clash2.i5 (k : Nat) : ∀ (n : Nat) (x16 : Int) (b2 : S4) (b3 : S4) (b5 : S3) (b6 : S3), iter (evCode (mkCx Try.prog (impl_clash2.c k) (impl_clash2.g k) : Cx impl_clash2.B5) (loopAt impl_clash2.bd 0)) impl_clash2.H5 impl_clash2.X5.dec n (impl_clash2.Z5.enc (((), (), (), (), x16, ()), (b2, b3, b5, b6, ()))) = impl_clash2.l5 k n x16 b2 b3 b5 b6
  | 0, _, _, _, _, _ => rfl
  | n + 1, x16, b2, b3, b5, b6 => ((iter_step _ _ _ _ n _).trans (impl_clash2.t5 k _ x16 b2 b3 b5 b6)).trans (congrArg (fun J => impl_clash2.s5 k J x16 b2 b3 b5 b6) (funext fun x16 => funext fun b2 => funext fun b3 => funext fun b5 => funext fun b6 => impl_clash2.i5 k n x16 b2 b3 b5 b6))
theorem impl_clash2.to5 (k : Nat) (hC : AllFun Try.prog (impl_clash2.c k)) : LoopTo Try.prog 48 (impl_clash2.e5 k) (loopAt impl_clash2.bd 0) := loop_to mixed hC (by kernel_rfl) (loops_all 0 (by kernel_rfl) fun i hi => absurd hi (Nat.not_lt_zero i)) fun a b h => ⟨k, (impl_clash2.i5 k k a.1.2.2.2.2.1 a.2.1 a.2.2.1 a.2.2.2.1 a.2.2.2.2.1).trans h⟩
theorem impl_clash2.link (k : Nat) (a0 : S4) (a1 : S4) : evFun (mkCx Try.prog (impl_clash2.c k) (impl_clash2.g k) : Cx Bool) Try.f109 ((impl_clash2.e k).args.enc (a0, a1, ())) (impl_clash2.e k).ret.dec = impl_clash2.f k a0 a1 := by kernel_rfl
theorem impl_clash2.ok1 (k : Nat) (hC : AllFun Try.prog (impl_clash2.c k)) : Fun Try.prog 109 (impl_clash2.e k).G := fun_ok mixed (body := impl_clash2.bd) Try.func109 (by kernel_rfl) (by kernel_rfl) (by kernel_rfl) hC (loops_all 1 (by kernel_rfl) fun i hi => by obtain rfl : i = 0 := Nat.lt_one_iff.1 hi; exact ⟨impl_clash2.e5 k, by kernel_rfl, impl_clash2.to5 k hC⟩) (impl_clash2.e k) (fun a => Nat.le_of_ble_eq_true (by kernel_rfl)) fun a b h => (impl_clash2.link k a.1 a.2.1).trans h
theorem impl_clash2.ok (k : Nat) : Fun Try.prog 109 (impl_clash2.e k).G := impl_clash2.ok1 k ⟨impl_parallel.ok k, impl_normal.ok k, trivial⟩

noncomputable def impl_det.f (k : Nat) (a0 : S3) (a1 : S3) (a2 : S3) : Option Int :=
  (impl_crossOf.f k  a1 a2).bind fun t1 => (impl_dot.f k  a0 t1).bind fun t2 => some t2
noncomputable def impl_det.e (k : Nat) : FE := { α := S3 × S3 × S3 × Unit, β := Int, args := (lCons aS3 (lCons aS3 (lCons aS3 lNil))), ret := (rOne (aI .i64)), f := fun p => impl_det.f k p.1 p.2.1 p.2.2.1 }
noncomputable def impl_det.c (k : Nat) : List (Nat × CE) := [(126, .fn (impl_crossOf.e k)), (128, .fn (impl_dot.e k))]
noncomputable def impl_det.bd : Code := match Try.f125.body with | some c => c | none => .skip
noncomputable def impl_det.g (k : Nat) : List (Nat × LE) := []
theorem impl_det.link (k : Nat) (a0 : S3) (a1 : S3) (a2 : S3) : evFun (mkCx Try.prog (impl_det.c k) (impl_det.g k) : Cx Int) Try.f125 ((impl_det.e k).args.enc (a0, a1, a2, ())) (impl_det.e k).ret.dec = impl_det.f k a0 a1 a2 := by kernel_rfl
theorem impl_det.ok1 (k : Nat) (hC : AllFun Try.prog (impl_det.c k)) : Fun Try.prog 125 (impl_det.e k).G := fun_ok mixed (body := impl_det.bd) Try.func125 (by kernel_rfl) (by kernel_rfl) (by kernel_rfl) hC (loops_all 0 (by kernel_rfl) fun i hi => absurd hi (Nat.not_lt_zero i)) (impl_det.e k) (fun a => Nat.le_of_ble_eq_true (by kernel_rfl)) fun a b h => (impl_det.link k a.1 a.2.1 a.2.2.1).trans h
theorem impl_det.ok (k : Nat) : Fun Try.prog 125 (impl_det.e k).G := impl_det.ok1 k ⟨impl_crossOf.ok k, impl_dot.ok k, trivial⟩

noncomputable def impl_weighs.H4 : Hd := ⟨[], [1, 5, 6, 13, 14, 15], []⟩
@[reducible] def impl_weighs.A4 : Type := (((List Int) × Int × Int × (List Int) × Int × Int × Unit) × (Unit))
noncomputable def impl_weighs.Z4 : SC impl_weighs.A4 := sC impl_weighs.H4 (eCons 1 (tP (aSl (.i .i64))) (eCons 5 (tP (aI .i64)) (eCons 6 (tP (aI .i64)) (eCons 13 (tP (aSl (.i .i64))) (eCons 14 (tP (aI .i64)) (eCons 15 (tP (aI .i64)) eNil)))))) bNil
@[reducible] def impl_weighs.B4 : Type := ((Bool × Unit) × (Unit)) ⊕ ((Int × Int × Unit) × (Unit))
noncomputable def impl_weighs.X4 : XC impl_weighs.B4 := xOr (xRet (sC ⟨[], [4], []⟩ (eCons 4 (tP aB) eNil) bNil)) (xExit 0 (sC ⟨[], [5, 6], []⟩ (eCons 5 (tP (aI .i64)) (eCons 6 (tP (aI .i64)) eNil)) bNil))
noncomputable def impl_weighs.s4 (k : Nat)  (J : (List Int) → Int → Int → (List Int) → Int → Int → Option impl_weighs.B4) (x1 : List Int) (x5 : Int) (x6 : Int) (x13 : List Int) (x14 : Int) (x15 : Int) : Option impl_weighs.B4 :=
  if (decide (x15 < x14)) = true then (if 0 ≤ x15 then (if x15 < (x13.length : Int) then (if (x5 == 0) = true then (some (.inl ((false, ()), (())))) else ((impl_sign.f k  (rd x13 x15)).bind fun t2 => if (t2 != x5) = true then (some (.inl ((false, ()), (())))) else (if 0 ≤ x15 then (if x15 < (x1.length : Int) then (J x1 x5 (W (x6 + (W ((rd x13 x15) * (rd x1 x15))))) x13 x14 (W (x15 + 1))) else none) else none))) else none) else none) else (some (.inr ((x5, x6, ()), (()))))
noncomputable def impl_weighs.l4 (k : Nat)  : Nat → (List Int) → Int → Int → (List Int) → Int → Int → Option impl_weighs.B4
  | 0, _, _, _, _, _, _ => none
  | n + 1, x1, x5, x6, x13, x14, x15 => impl_weighs.s4 k (impl_weighs.l4 k n) x1 x5 x6 x13 x14 x15
noncomputable def impl_weighs.f (k : Nat) (a0 : List Int) (a1 : List Int) : Option Bool :=
  if 0 ≤ 0 then (if 0 < (a0.length : Int) then ((impl_sign.f k  (rd a0 0)).bind fun t1 => (impl_weighs.l4 k k a1 t1 0 a0 (a0.length : Int) 0).bind fun | .inl r3 => (some r3.1.1) | .inr x4 => (some (decide ((W (x4.1.2.1 * x4.1.1)) ≤ 0)))) else none) else none
noncomputable def impl_weighs.e (k : Nat) : FE := { α := (List Int) × (List Int) × Unit, β := Bool, args := (lCons (aSl (.i .i64)) (lCons (aSl (.i .i64)) lNil)), ret := (rOne aB), f := fun p => impl_weighs.f k p.1 p.2.1 }
noncomputable def impl_weighs.c (k : Nat) : List (Nat × CE) := [(131, .fn (impl_sign.e k))]
noncomputable def impl_weighs.bd : Code := match Try.f127.body with | some c => c | none => .skip
noncomputable def impl_weighs.e4 (k : Nat) : LE := { H := impl_weighs.H4, α := impl_weighs.A4, β := impl_weighs.B4, st := impl_weighs.Z4, xt := impl_weighs.X4, f := fun p => impl_weighs.l4 k k p.1.1 p.1.2.1 p.1.2.2.1 p.1.2.2.2.1 p.1.2.2.2.2.1 p.1.2.2.2.2.2.1 }
noncomputable def impl_weighs.g (k : Nat) : List (Nat × LE) := [(4, impl_weighs.e4 k)]
theorem impl_weighs.t4 (k : Nat) (I : S2 → Option impl_weighs.B4) (x1 : List Int) (x5 : Int) (x6 : Int) (x13 : List Int) (x14 : Int) (x15 : Int) : stepOf (mkCx Try.prog (impl_weighs.c k) (impl_weighs.g k) : Cx impl_weighs.B4) (loopAt impl_weighs.bd 0) impl_weighs.H4 impl_weighs.X4.dec I (impl_weighs.Z4.enc ((x1, x5, x6, x13, x14, x15, ()), (()))) = impl_weighs.s4 k (fun x1 x5 x6 x13 x14 x15 => I (impl_weighs.Z4.enc ((x1, x5, x6, x13, x14, x15, ()), (())))) x1 x5 x6 x13 x14 x15 := by kernel_rfl
theorem impl_weighs.i4 (k : Nat) : ∀ (n : Nat) (x1 : List Int) (x5 : Int) (x6 : Int) (x13 : List Int) (x14 : Int) (x15 : Int), iter (evCode (mkCx Try.prog (impl_weighs.c k) (impl_weighs.g k) : Cx impl_weighs.B4) (loopAt impl_weighs.bd 0)) impl_weighs.H4 impl_weighs.X4.dec n (impl_weighs.Z4.enc ((x1, x5, x6, x13, x14, x15, ()), (()))) = impl_weighs.l4 k n x1 x5 x6 x13 x14 x15
  | 0, _, _, _, _, _, _ => rfl
  | n + 1, x1, x5, x6, x13, x14, x15 => ((iter_step _ _ _ _ n _).trans (impl_weighs.t4 k _ x1 x5 x6 x13 x14 x15)).trans (congrArg (fun J => impl_weighs.s4 k J x1 x5 x6 x13 x14 x15) (funext fun x1 => funext fun x5 => funext fun x6 => funext fun x13 => funext fun x14 => funext fun x15 => impl_weighs.i4 k n x1 x5 x6 x13 x14 x15))
theorem impl_weighs.to4 (k : Nat) (hC : AllFun Try.prog (impl_weighs.c k)) : LoopTo Try.prog 41 (impl_weighs.e4 k) (loopAt impl_weighs.bd 0) := loop_to mixed hC (by kernel_rfl) (loops_all 0 (by kernel_rfl) fun i hi => absurd hi (Nat.not_lt_zero i)) fun a b h => ⟨k, (impl_weighs.i4 k k a.1.1 a.1.2.1 a.1.2.2.1 a.1.2.2.2.1 a.1.2.2.2.2.1 a.1.2.2.2.2.2.1).trans h⟩
theorem impl_weighs.link (k : Nat) (a0 : List Int) (a1 : List Int) : evFun (mkCx Try.prog (impl_weighs.c k) (impl_weighs.g k) : Cx Bool) Try.f127 ((impl_weighs.e k).args.enc (a0, a1, ())) (impl_weighs.e k).ret.dec = impl_weighs.f k a0 a1 := by kernel_rfl
theorem impl_weighs.ok1 (k : Nat) (hC : AllFun Try.prog (impl_weighs.c k)) : Fun Try.prog 127 (impl_weighs.e k).G := fun_ok mixed (body := impl_weighs.bd) Try.func127 (by kernel_rfl) (by kernel_rfl) (by kernel_rfl) hC (loops_all 1 (by kernel_rfl) fun i hi => by obtain rfl : i = 0 := Nat.lt_one_iff.1 hi; exact ⟨impl_weighs.e4 k, by kernel_rfl, impl_weighs.to4 k hC⟩) (impl_weighs.e k) (fun a => Nat.le_of_ble_eq_true (by kernel_rfl)) fun a b h => (impl_weighs.link k a.1 a.2.1).trans h
theorem impl_weighs.ok (k : Nat) : Fun Try.prog 127 (impl_weighs.e k).G := impl_weighs.ok1 k ⟨impl_sign.ok k, trivial⟩

noncomputable def impl_clash3.f (k : Nat) (a0 : S4) (a1 : S4) (a2 : S4) : Option Bool :=
  (impl_normal.f k  a0).bind fun t1 => (impl_normal.f k  a1).bind fun t2 => (impl_normal.f k  a2).bind fun t3 => (impl_det.f k  t1 t2 t3).bind fun t4 => if (t4 != 0) = true then (some false) else ((impl_crossOf.f k  t1 t2).bind fun t5 => (impl_crossOf.f k  t2 t3).bind fun t6 => (impl_dot.f k  t6 t5).bind fun t7 => (impl_crossOf.f k  t3 t1).bind fun t8 => (impl_dot.f k  t8 t5).bind fun t9 => (impl_dot.f k  t5 t5).bind fun t10 => (impl_weighs.f k  ([t7, t9, t10] : List Int) ([a0.d, a1.d, a2.d] : List Int)).bind fun t11 => some t11)
noncomputable def impl_clash3.e (k : Nat) : FE := { α := S4 × S4 × S4 × Unit, β := Bool, args := (lCons aS4 (lCons aS4 (lCons aS4 lNil))), ret := (rOne aB), f := fun p => impl_clash3.f k p.1 p.2.1 p.2.2.1 }
noncomputable def impl_clash3.c (k : Nat) : List (Nat × CE) := [(124, .fn (impl_normal.e k)), (125, .fn (impl_det.e k)), (126, .fn (impl_crossOf.e k)), (128, .fn (impl_dot.e k)), (127, .fn (impl_weighs.e k))]
noncomputable def impl_clash3.bd : Code := match Try.f110.body with | some c => c | none => .skip
noncomputable def impl_clash3.g (k : Nat) : List (Nat × LE) := []
theorem impl_clash3.link (k : Nat) (a0 : S4) (a1 : S4) (a2 : S4) : evFun (mkCx Try.prog (impl_clash3.c k) (impl_clash3.g k) : Cx Bool) Try.f110 ((impl_clash3.e k).args.enc (a0, a1, a2, ())) (impl_clash3.e k).ret.dec = impl_clash3.f k a0 a1 a2 := by kernel_rfl
theorem impl_clash3.ok1 (k : Nat) (hC : AllFun Try.prog (impl_clash3.c k)) : Fun Try.prog 110 (impl_clash3.e k).G := fun_ok mixed (body := impl_clash3.bd) Try.func110 (by kernel_rfl) (by kernel_rfl) (by kernel_rfl) hC (loops_all 0 (by kernel_rfl) fun i hi => absurd hi (Nat.not_lt_zero i)) (impl_clash3.e k) (fun a => Nat.le_of_ble_eq_true (by kernel_rfl)) fun a b h => (impl_clash3.link k a.1 a.2.1 a.2.2.1).trans h
theorem impl_clash3.ok (k : Nat) : Fun Try.prog 110 (impl_clash3.e k).G := impl_clash3.ok1 k ⟨impl_normal.ok k, impl_det.ok k, impl_crossOf.ok k, impl_dot.ok k, impl_weighs.ok k, trivial⟩

noncomputable def impl_det3.f (k : Nat) (a0 : S4) (a1 : S4) (a2 : S4) : Option Int :=
  (impl_normal.f k  a0).bind fun t1 => (impl_normal.f k  a1).bind fun t2 => (impl_normal.f k  a2).bind fun t3 => (impl_det.f k  t1 t2 t3).bind fun t4 => some t4
noncomputable def impl_det3.e (k : Nat) : FE := { α := S4 × S4 × S4 × Unit, β := Int, args := (lCons aS4 (lCons aS4 (lCons aS4 lNil))), ret := (rOne (aI .i64)), f := fun p => impl_det3.f k p.1 p.2.1 p.2.2.1 }
noncomputable def impl_det3.c (k : Nat) : List (Nat × CE) := [(124, .fn (impl_normal.e k)), (125, .fn (impl_det.e k))]
noncomputable def impl_det3.bd : Code := match Try.f129.body with | some c => c | none => .skip
noncomputable def impl_det3.g (k : Nat) : List (Nat × LE) := []
theorem impl_det3.link (k : Nat) (a0 : S4) (a1 : S4) (a2 : S4) : evFun (mkCx Try.prog (impl_det3.c k) (impl_det3.g k) : Cx Int) Try.f129 ((impl_det3.e k).args.enc (a0, a1, a2, ())) (impl_det3.e k).ret.dec = impl_det3.f k a0 a1 a2 := by kernel_rfl
theorem impl_det3.ok1 (k : Nat) (hC : AllFun Try.prog (impl_det3.c k)) : Fun Try.prog 129 (impl_det3.e k).G := fun_ok mixed (body := impl_det3.bd) Try.func129 (by kernel_rfl) (by kernel_rfl) (by kernel_rfl) hC (loops_all 0 (by kernel_rfl) fun i hi => absurd hi (Nat.not_lt_zero i)) (impl_det3.e k) (fun a => Nat.le_of_ble_eq_true (by kernel_rfl)) fun a b h => (impl_det3.link k a.1 a.2.1 a.2.2.1).trans h
theorem impl_det3.ok (k : Nat) : Fun Try.prog 129 (impl_det3.e k).G := impl_det3.ok1 k ⟨impl_normal.ok k, impl_det.ok k, trivial⟩

noncomputable def impl_clash4.f (k : Nat) (a0 : S4) (a1 : S4) (a2 : S4) (a3 : S4) : Option Bool :=
  (impl_det3.f k  a1 a2 a3).bind fun t1 => (impl_det3.f k  a0 a2 a3).bind fun t2 => (impl_det3.f k  a0 a1 a3).bind fun t3 => (impl_det3.f k  a0 a1 a2).bind fun t4 => (impl_weighs.f k  ([t1, (W (0 - t2)), t3, (W (0 - t4))] : List Int) ([a0.d, a1.d, a2.d, a3.d] : List Int)).bind fun t5 => some t5
noncomputable def impl_clash4.e (k : Nat) : FE := { α := S4 × S4 × S4 × S4 × Unit, β := Bool, args := (lCons aS4 (lCons aS4 (lCons aS4 (lCons aS4 lNil)))), ret := (rOne aB), f := fun p => impl_clash4.f k p.1 p.2.1 p.2.2.1 p.2.2.2.1 }
noncomputable def impl_clash4.c (k : Nat) : List (Nat × CE) := [(129, .fn (impl_det3.e k)), (127, .fn (impl_weighs.e k))]
noncomputable def impl_clash4.bd : Code := match Try.f111.body with | some c => c | none => .skip
noncomputable def impl_clash4.g (k : Nat) : List (Nat × LE) := []
theorem impl_clash4.link (k : Nat) (a0 : S4) (a1 : S4) (a2 : S4) (a3 : S4) : evFun (mkCx Try.prog (impl_clash4.c k) (impl_clash4.g k) : Cx Bool) Try.f111 ((impl_clash4.e k).args.enc (a0, a1, a2, a3, ())) (impl_clash4.e k).ret.dec = impl_clash4.f k a0 a1 a2 a3 := by kernel_rfl
theorem impl_clash4.ok1 (k : Nat) (hC : AllFun Try.prog (impl_clash4.c k)) : Fun Try.prog 111 (impl_clash4.e k).G := fun_ok mixed (body := impl_clash4.bd) Try.func111 (by kernel_rfl) (by kernel_rfl) (by kernel_rfl) hC (loops_all 0 (by kernel_rfl) fun i hi => absurd hi (Nat.not_lt_zero i)) (impl_clash4.e k) (fun a => Nat.le_of_ble_eq_true (by kernel_rfl)) fun a b h => (impl_clash4.link k a.1 a.2.1 a.2.2.1 a.2.2.2.1).trans h
theorem impl_clash4.ok (k : Nat) : Fun Try.prog 111 (impl_clash4.e k).G := impl_clash4.ok1 k ⟨impl_det3.ok k, impl_weighs.ok k, trivial⟩

end Go.Proofs.Ytfgaeenlnkioaaa.G
