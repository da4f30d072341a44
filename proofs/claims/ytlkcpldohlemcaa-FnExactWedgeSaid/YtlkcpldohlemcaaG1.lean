/- Go functions told as plain Lean functions; that the code does what these tell. Printed by a program of the session (evp.py). -/
import Derived.Test.YtlkcpldohlemcaaEv16
import Derived.Test.YtlkcpldohlemcaaG0
namespace Go.Proofs.Ytlkcpldohlemcaa.G
open Go Go.RowKit Go.Proofs Go.Proofs.Ytlkcpldohlemcaa.Ev
set_option linter.unusedVariables false
set_option maxRecDepth 100000

noncomputable def spec_l4Parallel.f (k : Nat) (a0 : S4) (a1 : S4) : Option Int :=
  (spec_l4Cross.f k  a0 a1).bind fun t1 => if (!((t1.x == 0) && ((t1.y == 0) && (t1.z == 0)))) = true then (some 0) else ((spec_l3Sign.f k  (W ((W ((W (a0.a * a1.a)) + (W (a0.b * a1.b)))) + (W (a0.c * a1.c))))).bind fun t2 => some t2)
noncomputable def spec_l4Parallel.e (k : Nat) : FE := { α := S4 × S4 × Unit, β := Int, args := (lCons aS4 (lCons aS4 lNil)), ret := (rOne (aI .i64)), f := fun p => spec_l4Parallel.f k p.1 p.2.1 }
noncomputable def spec_l4Parallel.c (k : Nat) : List (Nat × CE) := [(193, .fn (spec_l4Cross.e k)), (204, .fn (spec_l3Sign.e k))]
noncomputable def spec_l4Parallel.bd : Code := match Try.f227.body with | some c => c | none => .skip
noncomputable def spec_l4Parallel.g (k : Nat) : List (Nat × LE) := []
theorem spec_l4Parallel.link (k : Nat) (a0 : S4) (a1 : S4) : evFun (mkCx Try.prog (spec_l4Parallel.c k) (spec_l4Parallel.g k) : Cx Int) Try.f227 ((spec_l4Parallel.e k).args.enc (a0, a1, ())) (spec_l4Parallel.e k).ret.dec = spec_l4Parallel.f k a0 a1 := by kernel_rfl
theorem spec_l4Parallel.ok1 (k : Nat) (hC : AllFun Try.prog (spec_l4Parallel.c k)) : Fun Try.prog 227 (spec_l4Parallel.e k).G := fun_ok mixed (body := spec_l4Parallel.bd) Try.func227 (by kernel_rfl) (by kernel_rfl) (by kernel_rfl) hC (loops_all 0 (by kernel_rfl) fun i hi => absurd hi (Nat.not_lt_zero i)) (spec_l4Parallel.e k) (fun a => Nat.le_of_ble_eq_true (by kernel_rfl)) fun a b h => (spec_l4Parallel.link k a.1 a.2.1).trans h
theorem spec_l4Parallel.ok (k : Nat) : Fun Try.prog 227 (spec_l4Parallel.e k).G := spec_l4Parallel.ok1 k ⟨spec_l4Cross.ok k, spec_l3Sign.ok k, trivial⟩

noncomputable def spec_l6Clash2.f (k : Nat) (a0 : S4) (a1 : S4) : Option Bool :=
  (spec_l4Parallel.f k  a0 a1).bind fun t1 => if (decide (t1 ≥ 0)) = true then (some false) else ((spec_l3Abs.f k  a1.a).bind fun t2 => (spec_l3Abs.f k  a1.b).bind fun t3 => (spec_l3Abs.f k  a1.c).bind fun t4 => (spec_l3Abs.f k  a0.a).bind fun t5 => (spec_l3Abs.f k  a0.b).bind fun t6 => (spec_l3Abs.f k  a0.c).bind fun t7 => some (decide ((W ((W ((W ((W (t2 + t3)) + t4)) * a0.d)) + (W ((W ((W (t5 + t6)) + t7)) * a1.d)))) ≤ 0)))
noncomputable def spec_l6Clash2.e (k : Nat) : FE := { α := S4 × S4 × Unit, β := Bool, args := (lCons aS4 (lCons aS4 lNil)), ret := (rOne aB), f := fun p => spec_l6Clash2.f k p.1 p.2.1 }
noncomputable def spec_l6Clash2.c (k : Nat) : List (Nat × CE) := [(227, .fn (spec_l4Parallel.e k)), (194, .fn (spec_l3Abs.e k))]
noncomputable def spec_l6Clash2.bd : Code := match Try.f208.body with | some c => c | none => .skip
noncomputable def spec_l6Clash2.g (k : Nat) : List (Nat × LE) := []
theorem spec_l6Clash2.link (k : Nat) (a0 : S4) (a1 : S4) : evFun (mkCx Try.prog (spec_l6Clash2.c k) (spec_l6Clash2.g k) : Cx Bool) Try.f208 ((spec_l6Clash2.e k).args.enc (a0, a1, ())) (spec_l6Clash2.e k).ret.dec = spec_l6Clash2.f k a0 a1 := by kernel_rfl
theorem spec_l6Clash2.ok1 (k : Nat) (hC : AllFun Try.prog (spec_l6Clash2.c k)) : Fun Try.prog 208 (spec_l6Clash2.e k).G := fun_ok mixed (body := spec_l6Clash2.bd) Try.func208 (by kernel_rfl) (by kernel_rfl) (by kernel_rfl) hC (loops_all 0 (by kernel_rfl) fun i hi => absurd hi (Nat.not_lt_zero i)) (spec_l6Clash2.e k) (fun a => Nat.le_of_ble_eq_true (by kernel_rfl)) fun a b h => (spec_l6Clash2.link k a.1 a.2.1).trans h
theorem spec_l6Clash2.ok (k : Nat) : Fun Try.prog 208 (spec_l6Clash2.e k).G := spec_l6Clash2.ok1 k ⟨spec_l4Parallel.ok k, spec_l3Abs.ok k, trivial⟩

noncomputable def spec_l4Det3.f (k : Nat) (a0 : S4) (a1 : S4) (a2 : S4) : Option Int :=
  (spec_l4Cross.f k  a1 a2).bind fun t1 => some (W ((W ((W (a0.a * t1.x)) + (W (a0.b * t1.y)))) + (W (a0.c * t1.z))))
noncomputable def spec_l4Det3.e (k : Nat) : FE := { α := S4 × S4 × S4 × Unit, β := Int, args := (lCons aS4 (lCons aS4 (lCons aS4 lNil))), ret := (rOne (aI .i64)), f := fun p => spec_l4Det3.f k p.1 p.2.1 p.2.2.1 }
noncomputable def spec_l4Det3.c (k : Nat) : List (Nat × CE) := [(193, .fn (spec_l4Cross.e k))]
noncomputable def spec_l4Det3.bd : Code := match Try.f137.body with | some c => c | none => .skip
noncomputable def spec_l4Det3.g (k : Nat) : List (Nat × LE) := []
theorem spec_l4Det3.link (k : Nat) (a0 : S4) (a1 : S4) (a2 : S4) : evFun (mkCx Try.prog (spec_l4Det3.c k) (spec_l4Det3.g k) : Cx Int) Try.f137 ((spec_l4Det3.e k).args.enc (a0, a1, a2, ())) (spec_l4Det3.e k).ret.dec = spec_l4Det3.f k a0 a1 a2 := by kernel_rfl
theorem spec_l4Det3.ok1 (k : Nat) (hC : AllFun Try.prog (spec_l4Det3.c k)) : Fun Try.prog 137 (spec_l4Det3.e k).G := fun_ok mixed (body := spec_l4Det3.bd) Try.func137 (by kernel_rfl) (by kernel_rfl) (by kernel_rfl) hC (loops_all 0 (by kernel_rfl) fun i hi => absurd hi (Nat.not_lt_zero i)) (spec_l4Det3.e k) (fun a => Nat.le_of_ble_eq_true (by kernel_rfl)) fun a b h => (spec_l4Det3.link k a.1 a.2.1 a.2.2.1).trans h
theorem spec_l4Det3.ok (k : Nat) : Fun Try.prog 137 (spec_l4Det3.e k).G := spec_l4Det3.ok1 k ⟨spec_l4Cross.ok k, trivial⟩

noncomputable def spec_l6Sum.H5 : Hd := ⟨[], [0, 1, 5, 6, 7, 8], [], [], []⟩
@[reducible] def spec_l6Sum.A5 : Type := (((List Int) × (List Int) × Bool × Bool × Int × Int × Unit) × (Unit))
noncomputable def spec_l6Sum.Z5 : SC spec_l6Sum.A5 := sC spec_l6Sum.H5 (eCons 0 (tP (aSl (.i .i64))) (eCons 1 (tP (aSl (.i .i64))) (eCons 5 (tP aB) (eCons 6 (tP aB) (eCons 7 (tP (aI .i64)) (eCons 8 (tP (aI .i64)) eNil)))))) bNil
@[reducible] def spec_l6Sum.B5 : Type := ((Bool × Bool × Int × Unit) × (Unit))
noncomputable def spec_l6Sum.X5 : XC spec_l6Sum.B5 := xExit 0 (sC ⟨[], [5, 6, 7], [], [], []⟩ (eCons 5 (tP aB) (eCons 6 (tP aB) (eCons 7 (tP (aI .i64)) eNil))) bNil)
noncomputable def spec_l6Sum.s5 (k : Nat)  (J : (List Int) → (List Int) → Bool → Bool → Int → Int → Option spec_l6Sum.B5) (x0 : List Int) (x1 : List Int) (x5 : Bool) (x6 : Bool) (x7 : Int) (x8 : Int) : Option spec_l6Sum.B5 :=
  if (decide (x8 < (x0.length : Int))) = true then (if x5 = true then (if 0 ≤ x8 then (if x8 < (x0.length : Int) then (if x6 = true then (if 0 ≤ x8 then (if x8 < (x0.length : Int) then (if 0 ≤ x8 then (if x8 < (x0.length : Int) then ((spec_l3Abs.f k  (rd x0 x8)).bind fun t1 => if 0 ≤ x8 then (if x8 < (x1.length : Int) then (J x0 x1 (decide ((rd x0 x8) > 0)) (decide ((rd x0 x8) < 0)) (W (x7 + (W (t1 * (rd x1 x8))))) (W (x8 + 1))) else none) else none) else none) else none) else none) else none) else (if 0 ≤ x8 then (if x8 < (x0.length : Int) then ((spec_l3Abs.f k  (rd x0 x8)).bind fun t2 => if 0 ≤ x8 then (if x8 < (x1.length : Int) then (J x0 x1 (decide ((rd x0 x8) > 0)) false (W (x7 + (W (t2 * (rd x1 x8))))) (W (x8 + 1))) else none) else none) else none) else none)) else none) else none) else (if x6 = true then (if 0 ≤ x8 then (if x8 < (x0.length : Int) then (if 0 ≤ x8 then (if x8 < (x0.length : Int) then ((spec_l3Abs.f k  (rd x0 x8)).bind fun t3 => if 0 ≤ x8 then (if x8 < (x1.length : Int) then (J x0 x1 false (decide ((rd x0 x8) < 0)) (W (x7 + (W (t3 * (rd x1 x8))))) (W (x8 + 1))) else none) else none) else none) else none) else none) else none) else (if 0 ≤ x8 then (if x8 < (x0.length : Int) then ((spec_l3Abs.f k  (rd x0 x8)).bind fun t4 => if 0 ≤ x8 then (if x8 < (x1.length : Int) then (J x0 x1 false false (W (x7 + (W (t4 * (rd x1 x8))))) (W (x8 + 1))) else none) else none) else none) else none))) else (some ((x5, x6, x7, ()), (())))
noncomputable def spec_l6Sum.l5 (k : Nat)  : Nat → (List Int) → (List Int) → Bool → Bool → Int → Int → Option spec_l6Sum.B5
  | 0, _, _, _, _, _, _ => none
  | n + 1, x0, x1, x5, x6, x7, x8 => spec_l6Sum.s5 k (spec_l6Sum.l5 k n) x0 x1 x5 x6 x7 x8
noncomputable def spec_l6Sum.f (k : Nat) (a0 : List Int) (a1 : List Int) : Option Bool :=
  (spec_l6Sum.l5 k k a0 a1 true true 0 0).bind fun x5 => if x5.1.1 = true then (some (decide (x5.1.2.2.1 ≤ 0))) else (if x5.1.2.1 = true then (some (decide (x5.1.2.2.1 ≤ 0))) else (some false))
noncomputable def spec_l6Sum.e (k : Nat) : FE := { α := (List Int) × (List Int) × Unit, β := Bool, args := (lCons (aSl (.i .i64)) (lCons (aSl (.i .i64)) lNil)), ret := (rOne aB), f := fun p => spec_l6Sum.f k p.1 p.2.1 }
noncomputable def spec_l6Sum.c (k : Nat) : List (Nat × CE) := [(194, .fn (spec_l3Abs.e k))]
noncomputable def spec_l6Sum.bd : Code := match Try.f228.body with | some c => c | none => .skip
noncomputable def spec_l6Sum.e5 (k : Nat) : LE := { H := spec_l6Sum.H5, α := spec_l6Sum.A5, β := spec_l6Sum.B5, st := spec_l6Sum.Z5, xt := spec_l6Sum.X5, f := fun p => spec_l6Sum.l5 k k p.1.1 p.1.2.1 p.1.2.2.1 p.1.2.2.2.1 p.1.2.2.2.2.1 p.1.2.2.2.2.2.1 }
noncomputable def spec_l6Sum.g (k : Nat) : List (Nat × LE) := [(5, spec_l6Sum.e5 k)]
theorem spec_l6Sum.t5 (k : Nat) (I : S2 → Option spec_l6Sum.B5) (x0 : List Int) (x1 : List Int) (x5 : Bool) (x6 : Bool) (x7 : Int) (x8 : Int) : stepOf (mkCx Try.prog (spec_l6Sum.c k) (spec_l6Sum.g k) : Cx spec_l6Sum.B5) (loopAt spec_l6Sum.bd 0) spec_l6Sum.H5 spec_l6Sum.X5.dec I (spec_l6Sum.Z5.enc ((x0, x1, x5, x6, x7, x8, ()), (()))) = spec_l6Sum.s5 k (fun x0 x1 x5 x6 x7 x8 => I (spec_l6Sum.Z5.enc ((x0, x1, x5, x6, x7, x8, ()), (())))) x0 x1 x5 x6 x7 x8 := by kernel_rfl
theorem spec_l6Sum.i5 (k : Nat) : ∀ (n : Nat) (x0 : List Int) (x1 : List Int) (x5 : Bool) (x6 : Bool) (x7 : Int) (x8 : Int), iter (evCode (mkCx Try.prog (spec_l6Sum.c k) (spec_l6Sum.g k) : Cx spec_l6Sum.B5) (loopAt spec_l6Sum.bd 0)) spec_l6Sum.H5 spec_l6Sum.X5.dec n (spec_l6Sum.Z5.enc ((x0, x1, x5, x6, x7, x8, ()), (()))) = spec_l6Sum.l5 k n x0 x1 x5 x6 x7 x8
  | 0, _, _, _, _, _, _ => rfl
  | n + 1, x0, x1, x5, x6, x7, x8 => ((iter_step _ _ _ _ n _).trans (spec_l6Sum.t5 k _ x0 x1 x5 x6 x7 x8)).trans (congrArg (fun J => spec_l6Sum.s5 k J x0 x1 x5 x6 x7 x8) (funext fun x0 => funext fun x1 => funext fun x5 => funext fun x6 => funext fun x7 => funext fun x8 => spec_l6Sum.i5 k n x0 x1 x5 x6 x7 x8))
theorem spec_l6Sum.to5 (k : Nat) (hC : AllFun Try.prog (spec_l6Sum.c k)) : LoopTo Try.prog 51 (spec_l6Sum.e5 k) (loopAt spec_l6Sum.bd 0) := loop_to mixed hC (by kernel_rfl) (loops_all 0 (by kernel_rfl) fun i hi => absurd hi (Nat.not_lt_zero i)) fun a b h => ⟨k, (spec_l6Sum.i5 k k a.1.1 a.1.2.1 a.1.2.2.1 a.1.2.2.2.1 a.1.2.2.2.2.1 a.1.2.2.2.2.2.1).trans h⟩
theorem spec_l6Sum.link (k : Nat) (a0 : List Int) (a1 : List Int) : evFun (mkCx Try.prog (spec_l6Sum.c k) (spec_l6Sum.g k) : Cx Bool) Try.f228 ((spec_l6Sum.e k).args.enc (a0, a1, ())) (spec_l6Sum.e k).ret.dec = spec_l6Sum.f k a0 a1 := by kernel_rfl
theorem spec_l6Sum.ok1 (k : Nat) (hC : AllFun Try.prog (spec_l6Sum.c k)) : Fun Try.prog 228 (spec_l6Sum.e k).G := fun_ok mixed (body := spec_l6Sum.bd) Try.func228 (by kernel_rfl) (by kernel_rfl) (by kernel_rfl) hC (loops_all 1 (by kernel_rfl) fun i hi => by obtain rfl : i = 0 := Nat.lt_one_iff.1 hi; exact ⟨spec_l6Sum.e5 k, by kernel_rfl, spec_l6Sum.to5 k hC⟩) (spec_l6Sum.e k) (fun a => Nat.le_of_ble_eq_true (by kernel_rfl)) fun a b h => (spec_l6Sum.link k a.1 a.2.1).trans h
theorem spec_l6Sum.ok (k : Nat) : Fun Try.prog 228 (spec_l6Sum.e k).G := spec_l6Sum.ok1 k ⟨spec_l3Abs.ok k, trivial⟩

noncomputable def spec_l6Clash3.H7 : Hd := ⟨[], [3, 4, 5, 7, 8, 9, 10], [3, 4, 5, 7, 8, 9], [], []⟩
@[reducible] def spec_l6Clash3.A7 : Type := ((Unit × Unit × Unit × Unit × Unit × Unit × Int × Unit) × (S4 × S4 × S4 × S3 × S3 × S3 × Unit))
noncomputable def spec_l6Clash3.Z7 : SC spec_l6Clash3.A7 := sC spec_l6Clash3.H7 (eCons 3 (tRef 3 0) (eCons 4 (tRef 4 0) (eCons 5 (tRef 5 0) (eCons 7 (tRef 7 0) (eCons 8 (tRef 8 0) (eCons 9 (tRef 9 0) (eCons 10 (tP (aI .i64)) eNil))))))) (bCons 3 (xVr cS4) (bCons 4 (xVr cS4) (bCons 5 (xVr cS4) (bCons 7 (xVr cS3) (bCons 8 (xVr cS3) (bCons 9 (xVr cS3) bNil))))))
@[reducible] def spec_l6Clash3.B7 : Type := ((Bool × Unit) × (Unit)) ⊕ ((Unit) × (Unit))
noncomputable def spec_l6Clash3.X7 : XC spec_l6Clash3.B7 := xOr (xRet (sC ⟨[], [6], [], [], []⟩ (eCons 6 (tP aB) eNil) bNil)) (xExit 0 (sC ⟨[], [], [], [], []⟩ eNil bNil))
noncomputable def spec_l6Clash3.s7 (k : Nat)  (J : Int → S4 → S4 → S4 → S3 → S3 → S3 → Option spec_l6Clash3.B7) (x10 : Int) (b3 : S4) (b4 : S4) (b5 : S4) (b7 : S3) (b8 : S3) (b9 : S3) : Option spec_l6Clash3.B7 :=
  if (decide (x10 < 3)) = true then (if 0 ≤ x10 then (if x10 < 3 then (if ((sel [b7.x, b7.y, b7.z] x10) != 0) = true then (if 0 ≤ x10 then (if x10 < 3 then (if 0 ≤ x10 then (if x10 < 3 then (if 0 ≤ x10 then (if x10 < 3 then ((spec_l6Sum.f k  ([(sel [b7.x, b7.y, b7.z] x10), (sel [b8.x, b8.y, b8.z] x10), (sel [b9.x, b9.y, b9.z] x10)] : List Int) ([b3.d, b4.d, b5.d] : List Int)).bind fun t5 => some (.inl ((t5, ()), (())))) else none) else none) else none) else none) else none) else none) else (if 0 ≤ x10 then (if x10 < 3 then (if ((sel [b8.x, b8.y, b8.z] x10) != 0) = true then (if 0 ≤ x10 then (if x10 < 3 then (if 0 ≤ x10 then (if x10 < 3 then (if 0 ≤ x10 then (if x10 < 3 then ((spec_l6Sum.f k  ([(sel [b7.x, b7.y, b7.z] x10), (sel [b8.x, b8.y, b8.z] x10), (sel [b9.x, b9.y, b9.z] x10)] : List Int) ([b3.d, b4.d, b5.d] : List Int)).bind fun t6 => some (.inl ((t6, ()), (())))) else none) else none) else none) else none) else none) else none) else (if 0 ≤ x10 then (if x10 < 3 then (if ((sel [b9.x, b9.y, b9.z] x10) != 0) = true then (if 0 ≤ x10 then (if x10 < 3 then (if 0 ≤ x10 then (if x10 < 3 then (if 0 ≤ x10 then (if x10 < 3 then ((spec_l6Sum.f k  ([(sel [b7.x, b7.y, b7.z] x10), (sel [b8.x, b8.y, b8.z] x10), (sel [b9.x, b9.y, b9.z] x10)] : List Int) ([b3.d, b4.d, b5.d] : List Int)).bind fun t7 => some (.inl ((t7, ()), (())))) else none) else none) else none) else none) else none) else none) else (J (W (x10 + 1)) b3 b4 b5 b7 b8 b9)) else none) else none)) else none) else none)) else none) else none) else (some (.inr ((()), (()))))
noncomputable def spec_l6Clash3.l7 (k : Nat)  : Nat → Int → S4 → S4 → S4 → S3 → S3 → S3 → Option spec_l6Clash3.B7
  | 0, _, _, _, _, _, _, _ => none
  | n + 1, x10, b3, b4, b5, b7, b8, b9 => spec_l6Clash3.s7 k (spec_l6Clash3.l7 k n) x10 b3 b4 b5 b7 b8 b9
noncomputable def spec_l6Clash3.f (k : Nat) (a0 : S4) (a1 : S4) (a2 : S4) : Option Bool :=
  (spec_l4Det3.f k  a0 a1 a2).bind fun t1 => if (t1 != 0) = true then (some false) else ((spec_l4Cross.f k  a1 a2).bind fun t2 => (spec_l4Cross.f k  a2 a0).bind fun t3 => (spec_l4Cross.f k  a0 a1).bind fun t4 => (spec_l6Clash3.l7 k k 0 a0 a1 a2 t2 t3 t4).bind fun | .inl r8 => (some r8.1.1) | .inr x9 => (some false))
noncomputable def spec_l6Clash3.e (k : Nat) : FE := { α := S4 × S4 × S4 × Unit, β := Bool, args := (lCons aS4 (lCons aS4 (lCons aS4 lNil))), ret := (rOne aB), f := fun p => spec_l6Clash3.f k p.1 p.2.1 p.2.2.1 }
noncomputable def spec_l6Clash3.c (k : Nat) : List (Nat × CE) := [(137, .fn (spec_l4Det3.e k)), (193, .fn (spec_l4Cross.e k)), (228, .fn (spec_l6Sum.e k))]
noncomputable def spec_l6Clash3.bd : Code := match Try.f209.body with | some c => c | none => .skip
noncomputable def spec_l6Clash3.e7 (k : Nat) : LE := { H := spec_l6Clash3.H7, α := spec_l6Clash3.A7, β := spec_l6Clash3.B7, st := spec_l6Clash3.Z7, xt := spec_l6Clash3.X7, f := fun p => spec_l6Clash3.l7 k k p.1.2.2.2.2.2.2.1 p.2.1 p.2.2.1 p.2.2.2.1 p.2.2.2.2.1 p.2.2.2.2.2.1 p.2.2.2.2.2.2.1 }
noncomputable def spec_l6Clash3.g (k : Nat) : List (Nat × LE) := [(7, spec_l6Clash3.e7 k)]
theorem spec_l6Clash3.t7 (k : Nat) (I : S2 → Option spec_l6Clash3.B7) (x10 : Int) (b3 : S4) (b4 : S4) (b5 : S4) (b7 : S3) (b8 : S3) (b9 : S3) : stepOf (mkCx Try.prog (spec_l6Clash3.c k) (spec_l6Clash3.g k) : Cx spec_l6Clash3.B7) (loopAt spec_l6Clash3.bd 0) spec_l6Clash3.H7 spec_l6Clash3.X7.dec I (spec_l6Clash3.Z7.enc (((), (), (), (), (), (), x10, ()), (b3, b4, b5, b7, b8, b9, ()))) = spec_l6Clash3.s7 k (fun x10 b3 b4 b5 b7 b8 b9 => I (spec_l6Clash3.Z7.enc (((), (), (), (), (), (), x10, ()), (b3, b4, b5, b7, b8, b9, ())))) x10 b3 b4 b5 b7 b8 b9 := by kernel_rfl
theorem spec_l6Clash3.i7 (k : Nat) : ∀ (n : Nat) (x10 : Int) (b3 : S4) (b4 : S4) (b5 : S4) (b7 : S3) (b8 : S3) (b9 : S3), iter (evCode (mkCx Try.prog (spec_l6Clash3.c k) (spec_l6Clash3.g k) : Cx spec_l6Clash3.B7) (loopAt spec_l6Clash3.bd 0)) spec_l6Clash3.H7 spec_l6Clash3.X7.dec n (spec_l6Clash3.Z7.enc (((), (), (), (), (), (), x10, ()), (b3, b4, b5, b7, b8, b9, ()))) = spec_l6Clash3.l7 k n x10 b3 b4 b5 b7 b8 b9
  | 0, _, _, _, _, _, _, _ => rfl
  | n + 1, x10, b3, b4, b5, b7, b8, b9 => ((iter_step _ _ _ _ n _).trans (spec_l6Clash3.t7 k _ x10 b3 b4 b5 b7 b8 b9)).trans (congrArg (fun J => spec_l6Clash3.s7 k J x10 b3 b4 b5 b7 b8 b9) (funext fun x10 => funext fun b3 => funext fun b4 => funext fun b5 => funext fun b7 => funext fun b8 => funext fun b9 => spec_l6Clash3.i7 k n x10 b3 b4 b5 b7 b8 b9))
theorem spec_l6Clash3.to7 (k : Nat) (hC : AllFun Try.prog (spec_l6Clash3.c k)) : LoopTo Try.prog 63 (spec_l6Clash3.e7 k) (loopAt spec_l6Clash3.bd 0) := loop_to mixed hC (by kernel_rfl) (loops_all 0 (by kernel_rfl) fun i hi => absurd hi (Nat.not_lt_zero i)) fun a b h => ⟨k, (spec_l6Clash3.i7 k k a.1.2.2.2.2.2.2.1 a.2.1 a.2.2.1 a.2.2.2.1 a.2.2.2.2.1 a.2.2.2.2.2.1 a.2.2.2.2.2.2.1).trans h⟩
theorem spec_l6Clash3.link (k : Nat) (a0 : S4) (a1 : S4) (a2 : S4) : evFun (mkCx Try.prog (spec_l6Clash3.c k) (spec_l6Clash3.g k) : Cx Bool) Try.f209 ((spec_l6Clash3.e k).args.enc (a0, a1, a2, ())) (spec_l6Clash3.e k).ret.dec = spec_l6Clash3.f k a0 a1 a2 := by kernel_rfl
theorem spec_l6Clash3.ok1 (k : Nat) (hC : AllFun Try.prog (spec_l6Clash3.c k)) : Fun Try.prog 209 (spec_l6Clash3.e k).G := fun_ok mixed (body := spec_l6Clash3.bd) Try.func209 (by kernel_rfl) (by kernel_rfl) (by kernel_rfl) hC (loops_all 1 (by kernel_rfl) fun i hi => by obtain rfl : i = 0 := Nat.lt_one_iff.1 hi; exact ⟨spec_l6Clash3.e7 k, by kernel_rfl, spec_l6Clash3.to7 k hC⟩) (spec_l6Clash3.e k) (fun a => Nat.le_of_ble_eq_true (by kernel_rfl)) fun a b h => (spec_l6Clash3.link k a.1 a.2.1 a.2.2.1).trans h
theorem spec_l6Clash3.ok (k : Nat) : Fun Try.prog 209 (spec_l6Clash3.e k).G := spec_l6Clash3.ok1 k ⟨spec_l4Det3.ok k, spec_l4Cross.ok k, spec_l6Sum.ok k, trivial⟩

noncomputable def spec_l6Clash4.f (k : Nat) (a0 : S4) (a1 : S4) (a2 : S4) (a3 : S4) : Option Bool :=
  (spec_l4Det3.f k  a1 a2 a3).bind fun t1 => (spec_l4Det3.f k  a0 a2 a3).bind fun t2 => (spec_l4Det3.f k  a0 a1 a3).bind fun t3 => (spec_l4Det3.f k  a0 a1 a2).bind fun t4 => (spec_l6Sum.f k  ([t1, (W (0 - t2)), t3, (W (0 - t4))] : List Int) ([a0.d, a1.d, a2.d, a3.d] : List Int)).bind fun t5 => some t5
noncomputable def spec_l6Clash4.e (k : Nat) : FE := { α := S4 × S4 × S4 × S4 × Unit, β := Bool, args := (lCons aS4 (lCons aS4 (lCons aS4 (lCons aS4 lNil)))), ret := (rOne aB), f := fun p => spec_l6Clash4.f k p.1 p.2.1 p.2.2.1 p.2.2.2.1 }
noncomputable def spec_l6Clash4.c (k : Nat) : List (Nat × CE) := [(137, .fn (spec_l4Det3.e k)), (228, .fn (spec_l6Sum.e k))]
noncomputable def spec_l6Clash4.bd : Code := match Try.f210.body with | some c => c | none => .skip
noncomputable def spec_l6Clash4.g (k : Nat) : List (Nat × LE) := []
theorem spec_l6Clash4.link (k : Nat) (a0 : S4) (a1 : S4) (a2 : S4) (a3 : S4) : evFun (mkCx Try.prog (spec_l6Clash4.c k) (spec_l6Clash4.g k) : Cx Bool) Try.f210 ((spec_l6Clash4.e k).args.enc (a0, a1, a2, a3, ())) (spec_l6Clash4.e k).ret.dec = spec_l6Clash4.f k a0 a1 a2 a3 := by kernel_rfl
theorem spec_l6Clash4.ok1 (k : Nat) (hC : AllFun Try.prog (spec_l6Clash4.c k)) : Fun Try.prog 210 (spec_l6Clash4.e k).G := fun_ok mixed (body := spec_l6Clash4.bd) Try.func210 (by kernel_rfl) (by kernel_rfl) (by kernel_rfl) hC (loops_all 0 (by kernel_rfl) fun i hi => absurd hi (Nat.not_lt_zero i)) (spec_l6Clash4.e k) (fun a => Nat.le_of_ble_eq_true (by kernel_rfl)) fun a b h => (spec_l6Clash4.link k a.1 a.2.1 a.2.2.1 a.2.2.2.1).trans h
theorem spec_l6Clash4.ok (k : Nat) : Fun Try.prog 210 (spec_l6Clash4.e k).G := spec_l6Clash4.ok1 k ⟨spec_l4Det3.ok k, spec_l6Sum.ok k, trivial⟩

noncomputable def spec_l6With.H13 : Hd := ⟨[], [0, 3, 5, 6, 7, 8], [3], [], []⟩
@[reducible] def spec_l6With.A13 : Type := (((List S4) × Unit × Int × Int × Int × Int × Unit) × (S4 × Unit))
noncomputable def spec_l6With.Z13 : SC spec_l6With.A13 := sC spec_l6With.H13 (eCons 0 (tP (aSl .s4)) (eCons 3 (tRef 3 0) (eCons 5 (tP (aI .i64)) (eCons 6 (tP (aI .i64)) (eCons 7 (tP (aI .i64)) (eCons 8 (tP (aI .i64)) eNil)))))) (bCons 3 (xVr cS4) bNil)
@[reducible] def spec_l6With.B13 : Type := ((Bool × Unit) × (Unit)) ⊕ (((List S4) × Unit × Int × Int × Int × Unit) × (S4 × Unit))
noncomputable def spec_l6With.X13 : XC spec_l6With.B13 := xOr (xRet (sC ⟨[], [4], [], [], []⟩ (eCons 4 (tP aB) eNil) bNil)) (xExit 4 (sC ⟨[], [0, 3, 5, 6, 7], [3], [], []⟩ (eCons 0 (tP (aSl .s4)) (eCons 3 (tRef 3 0) (eCons 5 (tP (aI .i64)) (eCons 6 (tP (aI .i64)) (eCons 7 (tP (aI .i64)) eNil))))) (bCons 3 (xVr cS4) bNil)))
noncomputable def spec_l6With.s13 (k : Nat)  (J : (List S4) → Int → Int → Int → Int → S4 → Option spec_l6With.B13) (x0 : List S4) (x5 : Int) (x6 : Int) (x7 : Int) (x8 : Int) (b3 : S4) : Option spec_l6With.B13 :=
  if (decide (x8 < x5)) = true then (if 0 ≤ x6 then (if x6 < (x0.length : Int) then (if 0 ≤ x7 then (if x7 < (x0.length : Int) then (if 0 ≤ x8 then (if x8 < (x0.length : Int) then ((spec_l6Clash4.f k  (rd x0 x6) (rd x0 x7) (rd x0 x8) b3).bind fun t3 => if t3 = true then (some (.inl ((true, ()), (())))) else (J x0 x5 x6 x7 (W (x8 + 1)) b3)) else none) else none) else none) else none) else none) else none) else (some (.inr ((x0, (), x5, x6, x7, ()), (b3, ()))))
noncomputable def spec_l6With.l13 (k : Nat)  : Nat → (List S4) → Int → Int → Int → Int → S4 → Option spec_l6With.B13
  | 0, _, _, _, _, _, _ => none
  | n + 1, x0, x5, x6, x7, x8, b3 => spec_l6With.s13 k (spec_l6With.l13 k n) x0 x5 x6 x7 x8 b3
noncomputable def spec_l6With.H8 : Hd := ⟨[], [0, 3, 5, 6, 7], [3], [], []⟩
@[reducible] def spec_l6With.A8 : Type := (((List S4) × Unit × Int × Int × Int × Unit) × (S4 × Unit))
noncomputable def spec_l6With.Z8 : SC spec_l6With.A8 := sC spec_l6With.H8 (eCons 0 (tP (aSl .s4)) (eCons 3 (tRef 3 0) (eCons 5 (tP (aI .i64)) (eCons 6 (tP (aI .i64)) (eCons 7 (tP (aI .i64)) eNil))))) (bCons 3 (xVr cS4) bNil)
@[reducible] def spec_l6With.B8 : Type := ((Bool × Unit) × (Unit)) ⊕ (((List S4) × Unit × Int × Int × Unit) × (S4 × Unit))
noncomputable def spec_l6With.X8 : XC spec_l6With.B8 := xOr (xRet (sC ⟨[], [4], [], [], []⟩ (eCons 4 (tP aB) eNil) bNil)) (xExit 2 (sC ⟨[], [0, 3, 5, 6], [3], [], []⟩ (eCons 0 (tP (aSl .s4)) (eCons 3 (tRef 3 0) (eCons 5 (tP (aI .i64)) (eCons 6 (tP (aI .i64)) eNil)))) (bCons 3 (xVr cS4) bNil)))
noncomputable def spec_l6With.s8 (k : Nat)  (J : (List S4) → Int → Int → Int → S4 → Option spec_l6With.B8) (x0 : List S4) (x5 : Int) (x6 : Int) (x7 : Int) (b3 : S4) : Option spec_l6With.B8 :=
  if (decide (x7 < x5)) = true then (if 0 ≤ x6 then (if x6 < (x0.length : Int) then (if 0 ≤ x7 then (if x7 < (x0.length : Int) then ((spec_l6Clash3.f k  (rd x0 x6) (rd x0 x7) b3).bind fun t2 => if t2 = true then (some (.inl ((true, ()), (())))) else ((spec_l6With.l13 k k x0 x5 x6 x7 (W (x7 + 1)) b3).bind fun | .inl r4 => (some (.inl ((r4.1.1, ()), (())))) | .inr x5 => (J x5.1.1 x5.1.2.2.1 x5.1.2.2.2.1 (W (x5.1.2.2.2.2.1 + 1)) x5.2.1))) else none) else none) else none) else none) else (some (.inr ((x0, (), x5, x6, ()), (b3, ()))))
noncomputable def spec_l6With.l8 (k : Nat)  : Nat → (List S4) → Int → Int → Int → S4 → Option spec_l6With.B8
  | 0, _, _, _, _, _ => none
  | n + 1, x0, x5, x6, x7, b3 => spec_l6With.s8 k (spec_l6With.l8 k n) x0 x5 x6 x7 b3
noncomputable def spec_l6With.H3 : Hd := ⟨[], [0, 3, 5, 6], [3], [], []⟩
@[reducible] def spec_l6With.A3 : Type := (((List S4) × Unit × Int × Int × Unit) × (S4 × Unit))
noncomputable def spec_l6With.Z3 : SC spec_l6With.A3 := sC spec_l6With.H3 (eCons 0 (tP (aSl .s4)) (eCons 3 (tRef 3 0) (eCons 5 (tP (aI .i64)) (eCons 6 (tP (aI .i64)) eNil)))) (bCons 3 (xVr cS4) bNil)
@[reducible] def spec_l6With.B3 : Type := ((Bool × Unit) × (Unit)) ⊕ ((Unit) × (Unit))
noncomputable def spec_l6With.X3 : XC spec_l6With.B3 := xOr (xRet (sC ⟨[], [4], [], [], []⟩ (eCons 4 (tP aB) eNil) bNil)) (xExit 0 (sC ⟨[], [], [], [], []⟩ eNil bNil))
noncomputable def spec_l6With.s3 (k : Nat)  (J : (List S4) → Int → Int → S4 → Option spec_l6With.B3) (x0 : List S4) (x5 : Int) (x6 : Int) (b3 : S4) : Option spec_l6With.B3 :=
  if (decide (x6 < x5)) = true then (if 0 ≤ x6 then (if x6 < (x0.length : Int) then ((spec_l6Clash2.f k  (rd x0 x6) b3).bind fun t1 => if t1 = true then (some (.inl ((true, ()), (())))) else ((spec_l6With.l8 k k x0 x5 x6 (W (x6 + 1)) b3).bind fun | .inl r6 => (some (.inl ((r6.1.1, ()), (())))) | .inr x7 => (J x7.1.1 x7.1.2.2.1 (W (x7.1.2.2.2.1 + 1)) x7.2.1))) else none) else none) else (some (.inr ((()), (()))))
noncomputable def spec_l6With.l3 (k : Nat)  : Nat → (List S4) → Int → Int → S4 → Option spec_l6With.B3
  | 0, _, _, _, _ => none
  | n + 1, x0, x5, x6, b3 => spec_l6With.s3 k (spec_l6With.l3 k n) x0 x5 x6 b3
noncomputable def spec_l6With.f (k : Nat) (a0 : List S4) (a1 : S4) : Option Bool :=
  (spec_l6With.l3 k k a0 (a0.length : Int) 0 a1).bind fun | .inl r8 => (some r8.1.1) | .inr x9 => (some false)
noncomputable def spec_l6With.e (k : Nat) : FE := { α := (List S4) × S4 × Unit, β := Bool, args := (lCons (aSl .s4) (lCons aS4 lNil)), ret := (rOne aB), f := fun p => spec_l6With.f k p.1 p.2.1 }
noncomputable def spec_l6With.c (k : Nat) : List (Nat × CE) := [(208, .fn (spec_l6Clash2.e k)), (209, .fn (spec_l6Clash3.e k)), (210, .fn (spec_l6Clash4.e k))]
noncomputable def spec_l6With.bd : Code := match Try.f163.body with | some c => c | none => .skip
noncomputable def spec_l6With.e13 (k : Nat) : LE := { H := spec_l6With.H13, α := spec_l6With.A13, β := spec_l6With.B13, st := spec_l6With.Z13, xt := spec_l6With.X13, f := fun p => spec_l6With.l13 k k p.1.1 p.1.2.2.1 p.1.2.2.2.1 p.1.2.2.2.2.1 p.1.2.2.2.2.2.1 p.2.1 }
noncomputable def spec_l6With.e8 (k : Nat) : LE := { H := spec_l6With.H8, α := spec_l6With.A8, β := spec_l6With.B8, st := spec_l6With.Z8, xt := spec_l6With.X8, f := fun p => spec_l6With.l8 k k p.1.1 p.1.2.2.1 p.1.2.2.2.1 p.1.2.2.2.2.1 p.2.1 }
noncomputable def spec_l6With.e3 (k : Nat) : LE := { H := spec_l6With.H3, α := spec_l6With.A3, β := spec_l6With.B3, st := spec_l6With.Z3, xt := spec_l6With.X3, f := fun p => spec_l6With.l3 k k p.1.1 p.1.2.2.1 p.1.2.2.2.1 p.2.1 }
noncomputable def spec_l6With.g (k : Nat) : List (Nat × LE) := [(13, spec_l6With.e13 k), (8, spec_l6With.e8 k), (3, spec_l6With.e3 k)]
theorem spec_l6With.t13 (k : Nat) (I : S2 → Option spec_l6With.B13) (x0 : List S4) (x5 : Int) (x6 : Int) (x7 : Int) (x8 : Int) (b3 : S4) : stepOf (mkCx Try.prog (spec_l6With.c k) (spec_l6With.g k) : Cx spec_l6With.B13) (loopAt (loopAt (loopAt spec_l6With.bd 0) 0) 0) spec_l6With.H13 spec_l6With.X13.dec I (spec_l6With.Z13.enc ((x0, (), x5, x6, x7, x8, ()), (b3, ()))) = spec_l6With.s13 k (fun x0 x5 x6 x7 x8 b3 => I (spec_l6With.Z13.enc ((x0, (), x5, x6, x7, x8, ()), (b3, ())))) x0 x5 x6 x7 x8 b3 := by kernel_rfl
theorem spec_l6With.i13 (k : Nat) : ∀ (n : Nat) (x0 : List S4) (x5 : Int) (x6 : Int) (x7 : Int) (x8 : Int) (b3 : S4), iter (evCode (mkCx Try.prog (spec_l6With.c k) (spec_l6With.g k) : Cx spec_l6With.B13) (loopAt (loopAt (loopAt spec_l6With.bd 0) 0) 0)) spec_l6With.H13 spec_l6With.X13.dec n (spec_l6With.Z13.enc ((x0, (), x5, x6, x7, x8, ()), (b3, ()))) = spec_l6With.l13 k n x0 x5 x6 x7 x8 b3
  | 0, _, _, _, _, _, _ => rfl
  | n + 1, x0, x5, x6, x7, x8, b3 => ((iter_step _ _ _ _ n _).trans (spec_l6With.t13 k _ x0 x5 x6 x7 x8 b3)).trans (congrArg (fun J => spec_l6With.s13 k J x0 x5 x6 x7 x8 b3) (funext fun x0 => funext fun x5 => funext fun x6 => funext fun x7 => funext fun x8 => funext fun b3 => spec_l6With.i13 k n x0 x5 x6 x7 x8 b3))
theorem spec_l6With.t8 (k : Nat) (I : S2 → Option spec_l6With.B8) (x0 : List S4) (x5 : Int) (x6 : Int) (x7 : Int) (b3 : S4) : stepOf (mkCx Try.prog (spec_l6With.c k) (spec_l6With.g k) : Cx spec_l6With.B8) (loopAt (loopAt spec_l6With.bd 0) 0) spec_l6With.H8 spec_l6With.X8.dec I (spec_l6With.Z8.enc ((x0, (), x5, x6, x7, ()), (b3, ()))) = spec_l6With.s8 k (fun x0 x5 x6 x7 b3 => I (spec_l6With.Z8.enc ((x0, (), x5, x6, x7, ()), (b3, ())))) x0 x5 x6 x7 b3 := by kernel_rfl
theorem spec_l6With.i8 (k : Nat) : ∀ (n : Nat) (x0 : List S4) (x5 : Int) (x6 : Int) (x7 : Int) (b3 : S4), iter (evCode (mkCx Try.prog (spec_l6With.c k) (spec_l6With.g k) : Cx spec_l6With.B8) (loopAt (loopAt spec_l6With.bd 0) 0)) spec_l6With.H8 spec_l6With.X8.dec n (spec_l6With.Z8.enc ((x0, (), x5, x6, x7, ()), (b3, ()))) = spec_l6With.l8 k n x0 x5 x6 x7 b3
  | 0, _, _, _, _, _ => rfl
  | n + 1, x0, x5, x6, x7, b3 => ((iter_step _ _ _ _ n _).trans (spec_l6With.t8 k _ x0 x5 x6 x7 b3)).trans (congrArg (fun J => spec_l6With.s8 k J x0 x5 x6 x7 b3) (funext fun x0 => funext fun x5 => funext fun x6 => funext fun x7 => funext fun b3 => spec_l6With.i8 k n x0 x5 x6 x7 b3))
theorem spec_l6With.t3 (k : Nat) (I : S2 → Option spec_l6With.B3) (x0 : List S4) (x5 : Int) (x6 : Int) (b3 : S4) : stepOf (mkCx Try.prog (spec_l6With.c k) (spec_l6With.g k) : Cx spec_l6With.B3) (loopAt spec_l6With.bd 0) spec_l6With.H3 spec_l6With.X3.dec I (spec_l6With.Z3.enc ((x0, (), x5, x6, ()), (b3, ()))) = spec_l6With.s3 k (fun x0 x5 x6 b3 => I (spec_l6With.Z3.enc ((x0, (), x5, x6, ()), (b3, ())))) x0 x5 x6 b3 := by kernel_rfl
theorem spec_l6With.i3 (k : Nat) : ∀ (n : Nat) (x0 : List S4) (x5 : Int) (x6 : Int) (b3 : S4), iter (evCode (mkCx Try.prog (spec_l6With.c k) (spec_l6With.g k) : Cx spec_l6With.B3) (loopAt spec_l6With.bd 0)) spec_l6With.H3 spec_l6With.X3.dec n (spec_l6With.Z3.enc ((x0, (), x5, x6, ()), (b3, ()))) = spec_l6With.l3 k n x0 x5 x6 b3
  | 0, _, _, _, _ => rfl
  | n + 1, x0, x5, x6, b3 => ((iter_step _ _ _ _ n _).trans (spec_l6With.t3 k _ x0 x5 x6 b3)).trans (congrArg (fun J => spec_l6With.s3 k J x0 x5 x6 b3) (funext fun x0 => funext fun x5 => funext fun x6 => funext fun b3 => spec_l6With.i3 k n x0 x5 x6 b3))
theorem spec_l6With.to13 (k : Nat) (hC : AllFun Try.prog (spec_l6With.c k)) : LoopTo Try.prog 60 (spec_l6With.e13 k) (loopAt (loopAt (loopAt spec_l6With.bd 0) 0) 0) := loop_to mixed hC (by kernel_rfl) (loops_all 0 (by kernel_rfl) fun i hi => absurd hi (Nat.not_lt_zero i)) fun a b h => ⟨k, (spec_l6With.i13 k k a.1.1 a.1.2.2.1 a.1.2.2.2.1 a.1.2.2.2.2.1 a.1.2.2.2.2.2.1 a.2.1).trans h⟩
theorem spec_l6With.to8 (k : Nat) (hC : AllFun Try.prog (spec_l6With.c k)) : LoopTo Try.prog 60 (spec_l6With.e8 k) (loopAt (loopAt spec_l6With.bd 0) 0) := loop_to mixed hC (by kernel_rfl) (loops_all 1 (by kernel_rfl) fun i hi => by obtain rfl : i = 0 := Nat.lt_one_iff.1 hi; exact ⟨spec_l6With.e13 k, by kernel_rfl, spec_l6With.to13 k hC⟩) fun a b h => ⟨k, (spec_l6With.i8 k k a.1.1 a.1.2.2.1 a.1.2.2.2.1 a.1.2.2.2.2.1 a.2.1).trans h⟩
theorem spec_l6With.to3 (k : Nat) (hC : AllFun Try.prog (spec_l6With.c k)) : LoopTo Try.prog 60 (spec_l6With.e3 k) (loopAt spec_l6With.bd 0) := loop_to mixed hC (by kernel_rfl) (loops_all 1 (by kernel_rfl) fun i hi => by obtain rfl : i = 0 := Nat.lt_one_iff.1 hi; exact ⟨spec_l6With.e8 k, by kernel_rfl, spec_l6With.to8 k hC⟩) fun a b h => ⟨k, (spec_l6With.i3 k k a.1.1 a.1.2.2.1 a.1.2.2.2.1 a.2.1).trans h⟩
theorem spec_l6With.link (k : Nat) (a0 : List S4) (a1 : S4) : evFun (mkCx Try.prog (spec_l6With.c k) (spec_l6With.g k) : Cx Bool) Try.f163 ((spec_l6With.e k).args.enc (a0, a1, ())) (spec_l6With.e k).ret.dec = spec_l6With.f k a0 a1 := by kernel_rfl
theorem spec_l6With.ok1 (k : Nat) (hC : AllFun Try.prog (spec_l6With.c k)) : Fun Try.prog 163 (spec_l6With.e k).G := fun_ok mixed (body := spec_l6With.bd) Try.func163 (by kernel_rfl) (by kernel_rfl) (by kernel_rfl) hC (loops_all 1 (by kernel_rfl) fun i hi => by obtain rfl : i = 0 := Nat.lt_one_iff.1 hi; exact ⟨spec_l6With.e3 k, by kernel_rfl, spec_l6With.to3 k hC⟩) (spec_l6With.e k) (fun a => Nat.le_of_ble_eq_true (by kernel_rfl)) fun a b h => (spec_l6With.link k a.1 a.2.1).trans h
theorem spec_l6With.ok (k : Nat) : Fun Try.prog 163 (spec_l6With.e k).G := spec_l6With.ok1 k ⟨spec_l6Clash2.ok k, spec_l6Clash3.ok k, spec_l6Clash4.ok k, trivial⟩

noncomputable def spec_l6Open.H2 : Hd := ⟨[], [0, 3], [], [], []⟩
@[reducible] def spec_l6Open.A2 : Type := (((List S4) × Int × Unit) × (Unit))
noncomputable def spec_l6Open.Z2 : SC spec_l6Open.A2 := sC spec_l6Open.H2 (eCons 0 (tP (aSl .s4)) (eCons 3 (tP (aI .i64)) eNil)) bNil
@[reducible] def spec_l6Open.B2 : Type := ((Bool × Unit) × (Unit)) ⊕ ((Unit) × (Unit))
noncomputable def spec_l6Open.X2 : XC spec_l6Open.B2 := xOr (xRet (sC ⟨[], [2], [], [], []⟩ (eCons 2 (tP aB) eNil) bNil)) (xExit 0 (sC ⟨[], [], [], [], []⟩ eNil bNil))
noncomputable def spec_l6Open.s2 (k : Nat)  (J : (List S4) → Int → Option spec_l6Open.B2) (x0 : List S4) (x3 : Int) : Option spec_l6Open.B2 :=
  if (decide (x3 < (x0.length : Int))) = true then (if 0 ≤ x3 then (if x3 ≤ (x0.length : Int) then (if 0 ≤ x3 then (if x3 < (x0.length : Int) then ((spec_l6With.f k  (x0.take x3.toNat) (rd x0 x3)).bind fun t1 => if t1 = true then (some (.inl ((false, ()), (())))) else (J x0 (W (x3 + 1)))) else none) else none) else none) else none) else (some (.inr ((()), (()))))
noncomputable def spec_l6Open.l2 (k : Nat)  : Nat → (List S4) → Int → Option spec_l6Open.B2
  | 0, _, _ => none
  | n + 1, x0, x3 => spec_l6Open.s2 k (spec_l6Open.l2 k n) x0 x3
noncomputable def spec_l6Open.f (k : Nat) (a0 : List S4) : Option Bool :=
  (spec_l6Open.l2 k k a0 1).bind fun | .inl r2 => (some r2.1.1) | .inr x3 => (some true)
noncomputable def spec_l6Open.e (k : Nat) : FE := { α := (List S4) × Unit, β := Bool, args := (lCons (aSl .s4) lNil), ret := (rOne aB), f := fun p => spec_l6Open.f k p.1 }
noncomputable def spec_l6Open.c (k : Nat) : List (Nat × CE) := [(163, .fn (spec_l6With.e k))]
noncomputable def spec_l6Open.bd : Code := match Try.f95.body with | some c => c | none => .skip
noncomputable def spec_l6Open.e2 (k : Nat) : LE := { H := spec_l6Open.H2, α := spec_l6Open.A2, β := spec_l6Open.B2, st := spec_l6Open.Z2, xt := spec_l6Open.X2, f := fun p => spec_l6Open.l2 k k p.1.1 p.1.2.1 }
noncomputable def spec_l6Open.g (k : Nat) : List (Nat × LE) := [(2, spec_l6Open.e2 k)]
theorem spec_l6Open.t2 (k : Nat) (I : S2 → Option spec_l6Open.B2) (x0 : List S4) (x3 : Int) : stepOf (mkCx Try.prog (spec_l6Open.c k) (spec_l6Open.g k) : Cx spec_l6Open.B2) (loopAt spec_l6Open.bd 0) spec_l6Open.H2 spec_l6Open.X2.dec I (spec_l6Open.Z2.enc ((x0, x3, ()), (()))) = spec_l6Open.s2 k (fun x0 x3 => I (spec_l6Open.Z2.enc ((x0, x3, ()), (())))) x0 x3 := by kernel_rfl
theorem spec_l6Open.i2 (k : Nat) : ∀ (n : Nat) (x0 : List S4) (x3 : Int), iter (evCode (mkCx Try.prog (spec_l6Open.c k) (spec_l6Open.g k) : Cx spec_l6Open.B2) (loopAt spec_l6Open.bd 0)) spec_l6Open.H2 spec_l6Open.X2.dec n (spec_l6Open.Z2.enc ((x0, x3, ()), (()))) = spec_l6Open.l2 k n x0 x3
  | 0, _, _ => rfl
  | n + 1, x0, x3 => ((iter_step _ _ _ _ n _).trans (spec_l6Open.t2 k _ x0 x3)).trans (congrArg (fun J => spec_l6Open.s2 k J x0 x3) (funext fun x0 => funext fun x3 => spec_l6Open.i2 k n x0 x3))
theorem spec_l6Open.to2 (k : Nat) (hC : AllFun Try.prog (spec_l6Open.c k)) : LoopTo Try.prog 18 (spec_l6Open.e2 k) (loopAt spec_l6Open.bd 0) := loop_to mixed hC (by kernel_rfl) (loops_all 0 (by kernel_rfl) fun i hi => absurd hi (Nat.not_lt_zero i)) fun a b h => ⟨k, (spec_l6Open.i2 k k a.1.1 a.1.2.1).trans h⟩
theorem spec_l6Open.link (k : Nat) (a0 : List S4) : evFun (mkCx Try.prog (spec_l6Open.c k) (spec_l6Open.g k) : Cx Bool) Try.f95 ((spec_l6Open.e k).args.enc (a0, ())) (spec_l6Open.e k).ret.dec = spec_l6Open.f k a0 := by kernel_rfl
theorem spec_l6Open.ok1 (k : Nat) (hC : AllFun Try.prog (spec_l6Open.c k)) : Fun Try.prog 95 (spec_l6Open.e k).G := fun_ok mixed (body := spec_l6Open.bd) Try.func95 (by kernel_rfl) (by kernel_rfl) (by kernel_rfl) hC (loops_all 1 (by kernel_rfl) fun i hi => by obtain rfl : i = 0 := Nat.lt_one_iff.1 hi; exact ⟨spec_l6Open.e2 k, by kernel_rfl, spec_l6Open.to2 k hC⟩) (spec_l6Open.e k) (fun a => Nat.le_of_ble_eq_true (by kernel_rfl)) fun a b h => (spec_l6Open.link k a.1).trans h
theorem spec_l6Open.ok (k : Nat) : Fun Try.prog 95 (spec_l6Open.e k).G := spec_l6Open.ok1 k ⟨spec_l6With.ok k, trivial⟩

noncomputable def spec_l8Path.f (k : Nat) (a0 : List S4) (a1 : S4) : Option (List S4) :=
  if lt47 (([] : List S4).length + a0.length) = true then (if lt47 ((([] : List S4) ++ a0).length + ([a1] : List S4).length) = true then (some ((([] : List S4) ++ a0) ++ ([a1] : List S4))) else none) else none
noncomputable def spec_l8Path.e (k : Nat) : FE := { α := (List S4) × S4 × Unit, β := List S4, args := (lCons (aSl .s4) (lCons aS4 lNil)), ret := (rOwn 24 .s4), f := fun p => spec_l8Path.f k p.1 p.2.1 }
noncomputable def spec_l8Path.c (k : Nat) : List (Nat × CE) := []
noncomputable def spec_l8Path.bd : Code := match Try.f102.body with | some c => c | none => .skip
noncomputable def spec_l8Path.g (k : Nat) : List (Nat × LE) := []
theorem spec_l8Path.link (k : Nat) (a0 : List S4) (a1 : S4) : evFun (mkCx Try.prog (spec_l8Path.c k) (spec_l8Path.g k) : Cx (List S4)) Try.f102 ((spec_l8Path.e k).args.enc (a0, a1, ())) (spec_l8Path.e k).ret.dec = spec_l8Path.f k a0 a1 := by kernel_rfl
theorem spec_l8Path.ok1 (k : Nat) (hC : AllFun Try.prog (spec_l8Path.c k)) : Fun Try.prog 102 (spec_l8Path.e k).G := fun_ok mixed (body := spec_l8Path.bd) Try.func102 (by kernel_rfl) (by kernel_rfl) (by kernel_rfl) hC (loops_all 0 (by kernel_rfl) fun i hi => absurd hi (Nat.not_lt_zero i)) (spec_l8Path.e k) (fun a => Nat.le_of_ble_eq_true (by kernel_rfl)) fun a b h => (spec_l8Path.link k a.1 a.2.1).trans h
theorem spec_l8Path.ok (k : Nat) : Fun Try.prog 102 (spec_l8Path.e k).G := spec_l8Path.ok1 k trivial

noncomputable def spec_l3Flip.f (k : Nat) (a0 : S4) : Option S4 :=
  some (⟨(W (0 - a0.a)), (W (0 - a0.b)), (W (0 - a0.c)), (W (0 - a0.d))⟩ : S4)
noncomputable def spec_l3Flip.e (k : Nat) : FE := { α := S4 × Unit, β := S4, args := (lCons aS4 lNil), ret := (rOne aS4), f := fun p => spec_l3Flip.f k p.1 }
noncomputable def spec_l3Flip.c (k : Nat) : List (Nat × CE) := []
noncomputable def spec_l3Flip.bd : Code := match Try.f164.body with | some c => c | none => .skip
noncomputable def spec_l3Flip.g (k : Nat) : List (Nat × LE) := []
theorem spec_l3Flip.link (k : Nat) (a0 : S4) : evFun (mkCx Try.prog (spec_l3Flip.c k) (spec_l3Flip.g k) : Cx S4) Try.f164 ((spec_l3Flip.e k).args.enc (a0, ())) (spec_l3Flip.e k).ret.dec = spec_l3Flip.f k a0 := by kernel_rfl
theorem spec_l3Flip.ok1 (k : Nat) (hC : AllFun Try.prog (spec_l3Flip.c k)) : Fun Try.prog 164 (spec_l3Flip.e k).G := fun_ok mixed (body := spec_l3Flip.bd) Try.func164 (by kernel_rfl) (by kernel_rfl) (by kernel_rfl) hC (loops_all 0 (by kernel_rfl) fun i hi => absurd hi (Nat.not_lt_zero i)) (spec_l3Flip.e k) (fun a => Nat.le_of_ble_eq_true (by kernel_rfl)) fun a b h => (spec_l3Flip.link k a.1).trans h
theorem spec_l3Flip.ok (k : Nat) : Fun Try.prog 164 (spec_l3Flip.e k).G := spec_l3Flip.ok1 k trivial

noncomputable def spec_l9Convex.H2 : Hd := ⟨[], [0, 1, 4, 5], [4], [], []⟩
@[reducible] def spec_l9Convex.A2 : Type := (((List S4) × (List S4) × Unit × Int × Unit) × (Tree × Unit))
noncomputable def spec_l9Convex.Z2 : SC spec_l9Convex.A2 := sC spec_l9Convex.H2 (eCons 0 (tP (aSl .s4)) (eCons 1 (tP (aSl .s4)) (eCons 4 (tRef 4 0) (eCons 5 (tP (aI .i64)) eNil)))) (bCons 4 (xVr cTree) bNil)
@[reducible] def spec_l9Convex.B2 : Type := ((Unit × Unit) × (Tree × Unit)) ⊕ ((Unit × Unit) × (Tree × Unit))
noncomputable def spec_l9Convex.X2 : XC spec_l9Convex.B2 := xOr (xRet (sC ⟨[], [4], [4], [], []⟩ (eCons 4 (tRef 4 0) eNil) (bCons 4 (xVr cTree) bNil))) (xExit 0 (sC ⟨[], [4], [4], [], []⟩ (eCons 4 (tRef 4 0) eNil) (bCons 4 (xVr cTree) bNil)))
noncomputable def spec_l9Convex.s2 (k : Nat) (self96 : (List S4) → (List S4) → Option Tree) (J : (List S4) → (List S4) → Int → Tree → Option spec_l9Convex.B2) (x0 : List S4) (x1 : List S4) (x5 : Int) (b4 : Tree) : Option spec_l9Convex.B2 :=
  if (decide (x5 < (x0.length : Int))) = true then (if 0 ≤ x5 then (if x5 < (x0.length : Int) then ((spec_l3Flip.f k  (rd x0 x5)).bind fun t1 => (spec_l6With.f k  x1 t1).bind fun t2 => if (!t2) = true then (if 0 ≤ x5 then (if x5 < (x0.length : Int) then ((spec_l6With.f k  x1 (rd x0 x5)).bind fun t3 => if (!t3) = true then (if 0 ≤ x5 then (if x5 < (x0.length : Int) then (if 0 ≤ (W (x5 + 1)) then (if (W (x5 + 1)) ≤ (x0.length : Int) then (if 0 ≤ x5 then (if x5 < (x0.length : Int) then ((spec_l8Path.f k  x1 (rd x0 x5)).bind fun t4 => (self96  (x0.drop ((W (x5 + 1)).toNat)) t4).bind fun t5 => (spec_Leaf.f k  false).bind fun t6 => (spec_l8Node.f k  (rd x0 x5) (T1 t5) (T1 t6)).bind fun t7 => some (.inl (((), ()), ((T1 t7), ())))) else none) else none) else none) else none) else none) else none) else (J x0 x1 (W (x5 + 1)) (T1 b4))) else none) else none) else (J x0 x1 (W (x5 + 1)) (T1 b4))) else none) else none) else (some (.inr (((), ()), ((T1 b4), ()))))
noncomputable def spec_l9Convex.l2 (k : Nat) (self96 : (List S4) → (List S4) → Option Tree) : Nat → (List S4) → (List S4) → Int → Tree → Option spec_l9Convex.B2
  | 0, _, _, _, _ => none
  | n + 1, x0, x1, x5, b4 => spec_l9Convex.s2 k self96 (spec_l9Convex.l2 k self96 n) x0 x1 x5 b4
noncomputable def spec_l9Convex.fs (k : Nat) (self96 : (List S4) → (List S4) → Option Tree) (a0 : List S4) (a1 : List S4) : Option Tree :=
  (spec_l9Convex.l2 k self96 k a0 a1 0 (Tree.mk false ⟨0, 0, 0, 0⟩ ([] : List Tree))).bind fun | .inl r8 => (some (T1 r8.2.1)) | .inr x9 => ((spec_Leaf.f k  true).bind fun t10 => some (T1 t10))
noncomputable def spec_l9Convex.f : Nat → (List S4) → (List S4) → Option Tree
  | 0, _, _ => none
  | k + 1, a0, a1 => spec_l9Convex.fs k (spec_l9Convex.f k) a0 a1
theorem spec_l9Convex.fS (k : Nat) (a0 : List S4) (a1 : List S4) : spec_l9Convex.f (k + 1) a0 a1 = spec_l9Convex.fs k (spec_l9Convex.f k) a0 a1 := by first | rfl | rw [spec_l9Convex.f]
noncomputable def spec_l9Convex.e (k : Nat) : FE := { α := (List S4) × (List S4) × Unit, β := Tree, args := (lCons (aSl .s4) (lCons (aSl .s4) lNil)), ret := (rOne aTree), f := fun p => spec_l9Convex.f k p.1 p.2.1 }
noncomputable def spec_l9Convex.c (k : Nat) : List (Nat × CE) := [(164, .fn (spec_l3Flip.e k)), (163, .fn (spec_l6With.e k)), (102, .fn (spec_l8Path.e k)), (96, .fn (spec_l9Convex.e k)), (85, .fn (spec_Leaf.e k)), (86, .fn (spec_l8Node.e k))]
noncomputable def spec_l9Convex.bd : Code := match Try.f96.body with | some c => c | none => .skip
noncomputable def spec_l9Convex.e2 (k : Nat) : LE := { H := spec_l9Convex.H2, α := spec_l9Convex.A2, β := spec_l9Convex.B2, st := spec_l9Convex.Z2, xt := spec_l9Convex.X2, f := fun p => spec_l9Convex.l2 k (spec_l9Convex.f k) k p.1.1 p.1.2.1 p.1.2.2.2.1 p.2.1 }
noncomputable def spec_l9Convex.g (k : Nat) : List (Nat × LE) := [(2, spec_l9Convex.e2 k)]
theorem spec_l9Convex.t2 (k : Nat) (I : S2 → Option spec_l9Convex.B2) (x0 : List S4) (x1 : List S4) (x5 : Int) (b4 : Tree) : stepOf (mkCx Try.prog (spec_l9Convex.c k) (spec_l9Convex.g k) : Cx spec_l9Convex.B2) (loopAt spec_l9Convex.bd 0) spec_l9Convex.H2 spec_l9Convex.X2.dec I (spec_l9Convex.Z2.enc ((x0, x1, (), x5, ()), (b4, ()))) = spec_l9Convex.s2 k (spec_l9Convex.f k) (fun x0 x1 x5 b4 => I (spec_l9Convex.Z2.enc ((x0, x1, (), x5, ()), (b4, ())))) x0 x1 x5 b4 := by kernel_rfl
theorem spec_l9Convex.i2 (k : Nat) : ∀ (n : Nat) (x0 : List S4) (x1 : List S4) (x5 : Int) (b4 : Tree), iter (evCode (mkCx Try.prog (spec_l9Convex.c k) (spec_l9Convex.g k) : Cx spec_l9Convex.B2) (loopAt spec_l9Convex.bd 0)) spec_l9Convex.H2 spec_l9Convex.X2.dec n (spec_l9Convex.Z2.enc ((x0, x1, (), x5, ()), (b4, ()))) = spec_l9Convex.l2 k (spec_l9Convex.f k) n x0 x1 x5 b4
  | 0, _, _, _, _ => rfl
  | n + 1, x0, x1, x5, b4 => ((iter_step _ _ _ _ n _).trans (spec_l9Convex.t2 k _ x0 x1 x5 b4)).trans (congrArg (fun J => spec_l9Convex.s2 k (spec_l9Convex.f k) J x0 x1 x5 b4) (funext fun x0 => funext fun x1 => funext fun x5 => funext fun b4 => spec_l9Convex.i2 k n x0 x1 x5 b4))
theorem spec_l9Convex.to2 (k : Nat) (hC : AllFun Try.prog (spec_l9Convex.c k)) : LoopTo Try.prog 47 (spec_l9Convex.e2 k) (loopAt spec_l9Convex.bd 0) := loop_to mixed hC (by kernel_rfl) (loops_all 0 (by kernel_rfl) fun i hi => absurd hi (Nat.not_lt_zero i)) fun a b h => ⟨k, (spec_l9Convex.i2 k k a.1.1 a.1.2.1 a.1.2.2.2.1 a.2.1).trans h⟩
theorem spec_l9Convex.link (k : Nat) (a0 : List S4) (a1 : List S4) : evFun (mkCx Try.prog (spec_l9Convex.c k) (spec_l9Convex.g k) : Cx Tree) Try.f96 ((spec_l9Convex.e (k + 1)).args.enc (a0, a1, ())) (spec_l9Convex.e (k + 1)).ret.dec = spec_l9Convex.fs k (spec_l9Convex.f k) a0 a1 := by kernel_rfl
theorem spec_l9Convex.ok1 (k : Nat) (hC : AllFun Try.prog (spec_l9Convex.c k)) : Fun Try.prog 96 (spec_l9Convex.e (k + 1)).G := fun_ok mixed (body := spec_l9Convex.bd) Try.func96 (by kernel_rfl) (by kernel_rfl) (by kernel_rfl) hC (loops_all 1 (by kernel_rfl) fun i hi => by obtain rfl : i = 0 := Nat.lt_one_iff.1 hi; exact ⟨spec_l9Convex.e2 k, by kernel_rfl, spec_l9Convex.to2 k hC⟩) (spec_l9Convex.e (k + 1)) (fun a => Nat.le_of_ble_eq_true (by kernel_rfl)) fun a b h => (spec_l9Convex.link k a.1 a.2.1).trans ((spec_l9Convex.fS k a.1 a.2.1).symm.trans h)
theorem spec_l9Convex.ok : ∀ k, Fun Try.prog 96 (spec_l9Convex.e k).G
  | 0 => fun_zero (by kernel_rfl) fun _ => rfl
  | k + 1 => spec_l9Convex.ok1 k ⟨spec_l3Flip.ok k, spec_l6With.ok k, spec_l8Path.ok k, spec_l9Convex.ok k, spec_Leaf.ok k, spec_l8Node.ok k, trivial⟩

noncomputable def spec_Convex.f (k : Nat) (a0 : List S4) : Option (Tree × Int × Unit) :=
  (spec_l6Right.f k  a0).bind fun t1 => if (!t1) = true then (some ((Tree.mk false ⟨0, 0, 0, 0⟩ ([] : List Tree)), 1, ())) else ((spec_l6Open.f k  a0).bind fun t2 => if (!t2) = true then ((spec_Leaf.f k  false).bind fun t3 => some ((T1 t3), 2, ())) else ((spec_l9Convex.f k  a0 ([] : List S4)).bind fun t4 => some ((T1 t4), 0, ())))
noncomputable def spec_Convex.e (k : Nat) : FE := { α := (List S4) × Unit, β := (Tree × Int × Unit), args := (lCons (aSl .s4) lNil), ret := (rMany (lCons aTree (lCons (aI .i64) lNil))), f := fun p => spec_Convex.f k p.1 }
noncomputable def spec_Convex.c (k : Nat) : List (Nat × CE) := [(94, .fn (spec_l6Right.e k)), (95, .fn (spec_l6Open.e k)), (85, .fn (spec_Leaf.e k)), (96, .fn (spec_l9Convex.e k))]
noncomputable def spec_Convex.bd : Code := match Try.f23.body with | some c => c | none => .skip
noncomputable def spec_Convex.g (k : Nat) : List (Nat × LE) := []
theorem spec_Convex.link (k : Nat) (a0 : List S4) : evFun (mkCx Try.prog (spec_Convex.c k) (spec_Convex.g k) : Cx (Tree × Int × Unit)) Try.f23 ((spec_Convex.e k).args.enc (a0, ())) (spec_Convex.e k).ret.dec = spec_Convex.f k a0 := by kernel_rfl
theorem spec_Convex.ok1 (k : Nat) (hC : AllFun Try.prog (spec_Convex.c k)) : Fun Try.prog 23 (spec_Convex.e k).G := fun_ok mixed (body := spec_Convex.bd) Try.func23 (by kernel_rfl) (by kernel_rfl) (by kernel_rfl) hC (loops_all 0 (by kernel_rfl) fun i hi => absurd hi (Nat.not_lt_zero i)) (spec_Convex.e k) (fun a => Nat.le_of_ble_eq_true (by kernel_rfl)) fun a b h => (spec_Convex.link k a.1).trans h
theorem spec_Convex.ok (k : Nat) : Fun Try.prog 23 (spec_Convex.e k).G := spec_Convex.ok1 k ⟨spec_l6Right.ok k, spec_l6Open.ok k, spec_Leaf.ok k, spec_l9Convex.ok k, trivial⟩

noncomputable def laws_toPlaneS.H3 : Hd := ⟨[], [0, 3, 4], [], [], []⟩
@[reducible] def laws_toPlaneS.A3 : Type := (((List S4) × Unit × Int × Unit) × ((List S4) × Unit))
noncomputable def laws_toPlaneS.Z3 : SC laws_toPlaneS.A3 := sC laws_toPlaneS.H3 (eCons 0 (tP (aSl .s4)) (eCons 3 (tOsl 1000003) (eCons 4 (tP (aI .i64)) eNil))) (bCons 1000003 (xRow 24 .s4) bNil)
@[reducible] def laws_toPlaneS.B3 : Type := ((Unit × Unit) × ((List S4) × Unit))
noncomputable def laws_toPlaneS.X3 : XC laws_toPlaneS.B3 := xExit 0 (sC ⟨[], [3], [], [], []⟩ (eCons 3 (tOsl 1000003) eNil) (bCons 1000003 (xRow 24 .s4) bNil))
noncomputable def laws_toPlaneS.s3 (k : Nat)  (J : (List S4) → Int → (List S4) → Option laws_toPlaneS.B3) (x0 : List S4) (x4 : Int) (b1000003 : List S4) : Option laws_toPlaneS.B3 :=
  if (decide (x4 < (x0.length : Int))) = true then (if 0 ≤ x4 then (if x4 < (x0.length : Int) then ((laws_toPlane.f k  (rd x0 x4)).bind fun t1 => if 0 ≤ x4 then (if x4 < (b1000003.length : Int) then (if x4.toNat < b1000003.length then (J x0 (W (x4 + 1)) (b1000003.set x4.toNat t1)) else none) else none) else none) else none) else none) else (some (((), ()), (b1000003, ())))
noncomputable def laws_toPlaneS.l3 (k : Nat)  : Nat → (List S4) → Int → (List S4) → Option laws_toPlaneS.B3
  | 0, _, _, _ => none
  | n + 1, x0, x4, b1000003 => laws_toPlaneS.s3 k (laws_toPlaneS.l3 k n) x0 x4 b1000003
noncomputable def laws_toPlaneS.f (k : Nat) (a0 : List S4) : Option (List S4) :=
  if 0 ≤ (a0.length : Int) then (if lt47 ((a0.length : Int)).toNat = true then ((laws_toPlaneS.l3 k k a0 0 (List.replicate (a0.length : Int).toNat default : List S4)).bind fun x2 => some x2.2.1) else none) else none
noncomputable def laws_toPlaneS.e (k : Nat) : FE := { α := (List S4) × Unit, β := List S4, args := (lCons (aSl .s4) lNil), ret := (rOwn 24 .s4), f := fun p => laws_toPlaneS.f k p.1 }
noncomputable def laws_toPlaneS.c (k : Nat) : List (Nat × CE) := [(17, .fn (laws_toPlane.e k))]
noncomputable def laws_toPlaneS.bd : Code := match Try.f24.body with | some c => c | none => .skip
noncomputable def laws_toPlaneS.e3 (k : Nat) : LE := { H := laws_toPlaneS.H3, α := laws_toPlaneS.A3, β := laws_toPlaneS.B3, st := laws_toPlaneS.Z3, xt := laws_toPlaneS.X3, f := fun p => laws_toPlaneS.l3 k k p.1.1 p.1.2.2.1 p.2.1 }
noncomputable def laws_toPlaneS.g (k : Nat) : List (Nat × LE) := [(3, laws_toPlaneS.e3 k)]
theorem laws_toPlaneS.t3 (k : Nat) (I : S2 → Option laws_toPlaneS.B3) (x0 : List S4) (x4 : Int) (b1000003 : List S4) : stepOf (mkCx Try.prog (laws_toPlaneS.c k) (laws_toPlaneS.g k) : Cx laws_toPlaneS.B3) (loopAt laws_toPlaneS.bd 0) laws_toPlaneS.H3 laws_toPlaneS.X3.dec I (laws_toPlaneS.Z3.enc ((x0, (), x4, ()), (b1000003, ()))) = laws_toPlaneS.s3 k (fun x0 x4 b1000003 => I (laws_toPlaneS.Z3.enc ((x0, (), x4, ()), (b1000003, ())))) x0 x4 b1000003 := by kernel_rfl
theorem laws_toPlaneS.i3 (k : Nat) : ∀ (n : Nat) (x0 : List S4) (x4 : Int) (b1000003 : List S4), iter (evCode (mkCx Try.prog (laws_toPlaneS.c k) (laws_toPlaneS.g k) : Cx laws_toPlaneS.B3) (loopAt laws_toPlaneS.bd 0)) laws_toPlaneS.H3 laws_toPlaneS.X3.dec n (laws_toPlaneS.Z3.enc ((x0, (), x4, ()), (b1000003, ()))) = laws_toPlaneS.l3 k n x0 x4 b1000003
  | 0, _, _, _ => rfl
  | n + 1, x0, x4, b1000003 => ((iter_step _ _ _ _ n _).trans (laws_toPlaneS.t3 k _ x0 x4 b1000003)).trans (congrArg (fun J => laws_toPlaneS.s3 k J x0 x4 b1000003) (funext fun x0 => funext fun x4 => funext fun b1000003 => laws_toPlaneS.i3 k n x0 x4 b1000003))
theorem laws_toPlaneS.to3 (k : Nat) (hC : AllFun Try.prog (laws_toPlaneS.c k)) : LoopTo Try.prog 23 (laws_toPlaneS.e3 k) (loopAt laws_toPlaneS.bd 0) := loop_to mixed hC (by kernel_rfl) (loops_all 0 (by kernel_rfl) fun i hi => absurd hi (Nat.not_lt_zero i)) fun a b h => ⟨k, (laws_toPlaneS.i3 k k a.1.1 a.1.2.2.1 a.2.1).trans h⟩
theorem laws_toPlaneS.link (k : Nat) (a0 : List S4) : evFun (mkCx Try.prog (laws_toPlaneS.c k) (laws_toPlaneS.g k) : Cx (List S4)) Try.f24 ((laws_toPlaneS.e k).args.enc (a0, ())) (laws_toPlaneS.e k).ret.dec = laws_toPlaneS.f k a0 := by kernel_rfl
theorem laws_toPlaneS.ok1 (k : Nat) (hC : AllFun Try.prog (laws_toPlaneS.c k)) : Fun Try.prog 24 (laws_toPlaneS.e k).G := fun_ok mixed (body := laws_toPlaneS.bd) Try.func24 (by kernel_rfl) (by kernel_rfl) (by kernel_rfl) hC (loops_all 1 (by kernel_rfl) fun i hi => by obtain rfl : i = 0 := Nat.lt_one_iff.1 hi; exact ⟨laws_toPlaneS.e3 k, by kernel_rfl, laws_toPlaneS.to3 k hC⟩) (laws_toPlaneS.e k) (fun a => Nat.le_of_ble_eq_true (by kernel_rfl)) fun a b h => (laws_toPlaneS.link k a.1).trans h
theorem laws_toPlaneS.ok (k : Nat) : Fun Try.prog 24 (laws_toPlaneS.e k).G := laws_toPlaneS.ok1 k ⟨laws_toPlane.ok k, trivial⟩

noncomputable def impl_planesOk.H2 : Hd := ⟨[], [5, 6, 7], [], [], []⟩
@[reducible] def impl_planesOk.A2 : Type := (((List S4) × Int × Int × Unit) × (Unit))
noncomputable def impl_planesOk.Z2 : SC impl_planesOk.A2 := sC impl_planesOk.H2 (eCons 5 (tP (aSl .s4)) (eCons 6 (tP (aI .i64)) (eCons 7 (tP (aI .i64)) eNil))) bNil
@[reducible] def impl_planesOk.B2 : Type := ((Bool × Unit) × (Unit)) ⊕ ((Unit) × (Unit))
noncomputable def impl_planesOk.X2 : XC impl_planesOk.B2 := xOr (xRet (sC ⟨[], [2], [], [], []⟩ (eCons 2 (tP aB) eNil) bNil)) (xExit 0 (sC ⟨[], [], [], [], []⟩ eNil bNil))
noncomputable def impl_planesOk.s2 (k : Nat)  (J : (List S4) → Int → Int → Option impl_planesOk.B2) (x5 : List S4) (x6 : Int) (x7 : Int) : Option impl_planesOk.B2 :=
  if (decide (x7 < x6)) = true then (if 0 ≤ x7 then (if x7 < (x5.length : Int) then ((impl_PlaneOk.f k  (rd x5 x7)).bind fun t1 => if (!t1) = true then (some (.inl ((false, ()), (())))) else (J x5 x6 (W (x7 + 1)))) else none) else none) else (some (.inr ((()), (()))))
noncomputable def impl_planesOk.l2 (k : Nat)  : Nat → (List S4) → Int → Int → Option impl_planesOk.B2
  | 0, _, _, _ => none
  | n + 1, x5, x6, x7 => impl_planesOk.s2 k (impl_planesOk.l2 k n) x5 x6 x7
noncomputable def impl_planesOk.f (k : Nat) (a0 : List S4) : Option Bool :=
  (impl_planesOk.l2 k k a0 (a0.length : Int) 0).bind fun | .inl r2 => (some r2.1.1) | .inr x3 => (some true)
noncomputable def impl_planesOk.e (k : Nat) : FE := { α := (List S4) × Unit, β := Bool, args := (lCons (aSl .s4) lNil), ret := (rOne aB), f := fun p => impl_planesOk.f k p.1 }
noncomputable def impl_planesOk.c (k : Nat) : List (Nat × CE) := [(87, .fn (impl_PlaneOk.e k))]
noncomputable def impl_planesOk.bd : Code := match Try.f97.body with | some c => c | none => .skip
noncomputable def impl_planesOk.e2 (k : Nat) : LE := { H := impl_planesOk.H2, α := impl_planesOk.A2, β := impl_planesOk.B2, st := impl_planesOk.Z2, xt := impl_planesOk.X2, f := fun p => impl_planesOk.l2 k k p.1.1 p.1.2.1 p.1.2.2.1 }
noncomputable def impl_planesOk.g (k : Nat) : List (Nat × LE) := [(2, impl_planesOk.e2 k)]
theorem impl_planesOk.t2 (k : Nat) (I : S2 → Option impl_planesOk.B2) (x5 : List S4) (x6 : Int) (x7 : Int) : stepOf (mkCx Try.prog (impl_planesOk.c k) (impl_planesOk.g k) : Cx impl_planesOk.B2) (loopAt impl_planesOk.bd 0) impl_planesOk.H2 impl_planesOk.X2.dec I (impl_planesOk.Z2.enc ((x5, x6, x7, ()), (()))) = impl_planesOk.s2 k (fun x5 x6 x7 => I (impl_planesOk.Z2.enc ((x5, x6, x7, ()), (())))) x5 x6 x7 := by kernel_rfl
theorem impl_planesOk.i2 (k : Nat) : ∀ (n : Nat) (x5 : List S4) (x6 : Int) (x7 : Int), iter (evCode (mkCx Try.prog (impl_planesOk.c k) (impl_planesOk.g k) : Cx impl_planesOk.B2) (loopAt impl_planesOk.bd 0)) impl_planesOk.H2 impl_planesOk.X2.dec n (impl_planesOk.Z2.enc ((x5, x6, x7, ()), (()))) = impl_planesOk.l2 k n x5 x6 x7
  | 0, _, _, _ => rfl
  | n + 1, x5, x6, x7 => ((iter_step _ _ _ _ n _).trans (impl_planesOk.t2 k _ x5 x6 x7)).trans (congrArg (fun J => impl_planesOk.s2 k J x5 x6 x7) (funext fun x5 => funext fun x6 => funext fun x7 => impl_planesOk.i2 k n x5 x6 x7))
theorem impl_planesOk.to2 (k : Nat) (hC : AllFun Try.prog (impl_planesOk.c k)) : LoopTo Try.prog 15 (impl_planesOk.e2 k) (loopAt impl_planesOk.bd 0) := loop_to mixed hC (by kernel_rfl) (loops_all 0 (by kernel_rfl) fun i hi => absurd hi (Nat.not_lt_zero i)) fun a b h => ⟨k, (impl_planesOk.i2 k k a.1.1 a.1.2.1 a.1.2.2.1).trans h⟩
theorem impl_planesOk.link (k : Nat) (a0 : List S4) : evFun (mkCx Try.prog (impl_planesOk.c k) (impl_planesOk.g k) : Cx Bool) Try.f97 ((impl_planesOk.e k).args.enc (a0, ())) (impl_planesOk.e k).ret.dec = impl_planesOk.f k a0 := by kernel_rfl
theorem impl_planesOk.ok1 (k : Nat) (hC : AllFun Try.prog (impl_planesOk.c k)) : Fun Try.prog 97 (impl_planesOk.e k).G := fun_ok mixed (body := impl_planesOk.bd) Try.func97 (by kernel_rfl) (by kernel_rfl) (by kernel_rfl) hC (loops_all 1 (by kernel_rfl) fun i hi => by obtain rfl : i = 0 := Nat.lt_one_iff.1 hi; exact ⟨impl_planesOk.e2 k, by kernel_rfl, impl_planesOk.to2 k hC⟩) (impl_planesOk.e k) (fun a => Nat.le_of_ble_eq_true (by kernel_rfl)) fun a b h => (impl_planesOk.link k a.1).trans h
theorem impl_planesOk.ok (k : Nat) : Fun Try.prog 97 (impl_planesOk.e k).G := impl_planesOk.ok1 k ⟨impl_PlaneOk.ok k, trivial⟩

noncomputable def cmp_isNaN_int.f (k : Nat) (a0 : Int) : Option Bool :=
  some (a0 != a0)
noncomputable def cmp_isNaN_int.e (k : Nat) : FE := { α := Int × Unit, β := Bool, args := (lCons (aI .i64) lNil), ret := (rOne aB), f := fun p => cmp_isNaN_int.f k p.1 }
noncomputable def cmp_isNaN_int.c (k : Nat) : List (Nat × CE) := []
noncomputable def cmp_isNaN_int.bd : Code := match Try.f223.body with | some c => c | none => .skip
noncomputable def cmp_isNaN_int.g (k : Nat) : List (Nat × LE) := []
theorem cmp_isNaN_int.link (k : Nat) (a0 : Int) : evFun (mkCx Try.prog (cmp_isNaN_int.c k) (cmp_isNaN_int.g k) : Cx Bool) Try.f223 ((cmp_isNaN_int.e k).args.enc (a0, ())) (cmp_isNaN_int.e k).ret.dec = cmp_isNaN_int.f k a0 := by kernel_rfl
theorem cmp_isNaN_int.ok1 (k : Nat) (hC : AllFun Try.prog (cmp_isNaN_int.c k)) : Fun Try.prog 223 (cmp_isNaN_int.e k).G := fun_ok mixed (body := cmp_isNaN_int.bd) Try.func223 (by kernel_rfl) (by kernel_rfl) (by kernel_rfl) hC (loops_all 0 (by kernel_rfl) fun i hi => absurd hi (Nat.not_lt_zero i)) (cmp_isNaN_int.e k) (fun a => Nat.le_of_ble_eq_true (by kernel_rfl)) fun a b h => (cmp_isNaN_int.link k a.1).trans h
theorem cmp_isNaN_int.ok (k : Nat) : Fun Try.prog 223 (cmp_isNaN_int.e k).G := cmp_isNaN_int.ok1 k trivial

noncomputable def cmp_Compare_int.f (k : Nat) (a0 : Int) (a1 : Int) : Option Int :=
  (cmp_isNaN_int.f k  a0).bind fun t1 => (cmp_isNaN_int.f k  a1).bind fun t2 => if t1 = true then (if t2 = true then (some 0) else (some (-1))) else (if t2 = true then (some 1) else (if (decide (a0 < a1)) = true then (some (-1)) else (if (decide (a0 > a1)) = true then (some 1) else (some 0))))
noncomputable def cmp_Compare_int.e (k : Nat) : FE := { α := Int × Int × Unit, β := Int, args := (lCons (aI .i64) (lCons (aI .i64) lNil)), ret := (rOne (aI .i64)), f := fun p => cmp_Compare_int.f k p.1 p.2.1 }
noncomputable def cmp_Compare_int.c (k : Nat) : List (Nat × CE) := [(223, .fn (cmp_isNaN_int.e k))]
noncomputable def cmp_Compare_int.bd : Code := match Try.f191.body with | some c => c | none => .skip
noncomputable def cmp_Compare_int.g (k : Nat) : List (Nat × LE) := []
theorem cmp_Compare_int.link (k : Nat) (a0 : Int) (a1 : Int) : evFun (mkCx Try.prog (cmp_Compare_int.c k) (cmp_Compare_int.g k) : Cx Int) Try.f191 ((cmp_Compare_int.e k).args.enc (a0, a1, ())) (cmp_Compare_int.e k).ret.dec = cmp_Compare_int.f k a0 a1 := by kernel_rfl
theorem cmp_Compare_int.ok1 (k : Nat) (hC : AllFun Try.prog (cmp_Compare_int.c k)) : Fun Try.prog 191 (cmp_Compare_int.e k).G := fun_ok mixed (body := cmp_Compare_int.bd) Try.func191 (by kernel_rfl) (by kernel_rfl) (by kernel_rfl) hC (loops_all 0 (by kernel_rfl) fun i hi => absurd hi (Nat.not_lt_zero i)) (cmp_Compare_int.e k) (fun a => Nat.le_of_ble_eq_true (by kernel_rfl)) fun a b h => (cmp_Compare_int.link k a.1 a.2.1).trans h
theorem cmp_Compare_int.ok (k : Nat) : Fun Try.prog 191 (cmp_Compare_int.e k).G := cmp_Compare_int.ok1 k ⟨cmp_isNaN_int.ok k, trivial⟩

noncomputable def impl_sign.f (k : Nat) (a0 : Int) : Option Int :=
  (cmp_Compare_int.f k  a0 0).bind fun t1 => some t1
noncomputable def impl_sign.e (k : Nat) : FE := { α := Int × Unit, β := Int, args := (lCons (aI .i64) lNil), ret := (rOne (aI .i64)), f := fun p => impl_sign.f k p.1 }
noncomputable def impl_sign.c (k : Nat) : List (Nat × CE) := [(191, .fn (cmp_Compare_int.e k))]
noncomputable def impl_sign.bd : Code := match Try.f127.body with | some c => c | none => .skip
noncomputable def impl_sign.g (k : Nat) : List (Nat × LE) := []
theorem impl_sign.link (k : Nat) (a0 : Int) : evFun (mkCx Try.prog (impl_sign.c k) (impl_sign.g k) : Cx Int) Try.f127 ((impl_sign.e k).args.enc (a0, ())) (impl_sign.e k).ret.dec = impl_sign.f k a0 := by kernel_rfl
theorem impl_sign.ok1 (k : Nat) (hC : AllFun Try.prog (impl_sign.c k)) : Fun Try.prog 127 (impl_sign.e k).G := fun_ok mixed (body := impl_sign.bd) Try.func127 (by kernel_rfl) (by kernel_rfl) (by kernel_rfl) hC (loops_all 0 (by kernel_rfl) fun i hi => absurd hi (Nat.not_lt_zero i)) (impl_sign.e k) (fun a => Nat.le_of_ble_eq_true (by kernel_rfl)) fun a b h => (impl_sign.link k a.1).trans h
theorem impl_sign.ok (k : Nat) : Fun Try.prog 127 (impl_sign.e k).G := impl_sign.ok1 k ⟨cmp_Compare_int.ok k, trivial⟩

end Go.Proofs.Ytlkcpldohlemcaa.G
