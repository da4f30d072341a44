/- Go functions told as plain Lean functions; that the code does what these tell. Printed by a program of the session (evp.py). -/
import Derived.Test.YtlkcpldohlemcaaEv16
import Derived.Test.YtlkcpldohlemcaaG1
namespace Go.Proofs.Ytlkcpldohlemcaa.G
open Go Go.RowKit Go.Proofs Go.Proofs.Ytlkcpldohlemcaa.Ev
set_option linter.unusedVariables false
set_option maxRecDepth 100000

noncomputable def spec_l6Sum.H5 : Hd := ⟨[], [0, 1, 5, 6, 7, 8], [], []⟩
@[reducible] def spec_l6Sum.A5 : Type := (((List Int) × (List Int) × Bool × Bool × Int × Int × Unit) × (Unit))
noncomputable def spec_l6Sum.Z5 : SC spec_l6Sum.A5 := sC spec_l6Sum.H5 (eCons 0 (tP (aSl (.i .i64))) (eCons 1 (tP (aSl (.i .i64))) (eCons 5 (tP aB) (eCons 6 (tP aB) (eCons 7 (tP (aI .i64)) (eCons 8 (tP (aI .i64)) eNil)))))) bNil
@[reducible] def spec_l6Sum.B5 : Type := ((Bool × Bool × Int × Unit) × (Unit))
noncomputable def spec_l6Sum.X5 : XC spec_l6Sum.B5 := xExit 0 (sC ⟨[], [5, 6, 7], [], []⟩ (eCons 5 (tP aB) (eCons 6 (tP aB) (eCons 7 (tP (aI .i64)) eNil))) bNil)
noncomputable def spec_l6Sum.s5 (k : Nat)  (J : (List Int) → (List Int) → Bool → Bool → Int → Int → Option spec_l6Sum.B5) (x0 : List Int) (x1 : List Int) (x5 : Bool) (x6 : Bool) (x7 : Int) (x8 : Int) : Option spec_l6Sum.B5 :=
  if (decide (x8 < (x0.length : Int))) = true then (if x5 = true then (if 0 ≤ x8 then (if x8 < (x0.length : Int) then (if x6 = true then (if 0 ≤ x8 then (if x8 < (x0.length : Int) then (if 0 ≤ x8 then (if x8 < (x0.length : Int) then ((spec_l3Abs.f k  (rd x0 x8)).bind fun t1 => if 0 ≤ x8 then (if x8 < (x1.length : Int) then (J x0 x1 (decide ((rd x0 x8) > 0)) (decide ((rd x0 x8) < 0)) (W (x7 + (W (t1 * (rd x1 x8))))) (W (x8 + 1))) else none) else none) else none) else none) else none) else none) else (if 0 ≤ x8 then (if x8 < (x0.length : Int) then ((spec_l3Abs.f k  (rd x0 x8)).bind fun t2 => if 0 ≤ x8 then (if x8 < (x1.length : Int) then (J x0 x1 (decide ((rd x0 x8) > 0)) false (W (x7 + (W (t2 * (rd x1 x8))))) (W (x8 + 1))) else none) else none) else none) else none)) else none) else none) else (if x6 = true then (if 0 ≤ x8 then (if x8 < (x0.length : Int) then (if 0 ≤ x8 then (if x8 < (x0.length : Int) then ((spec_l3Abs.f k  (rd x0 x8)).bind fun t3 => if 0 ≤ x8 then (if x8 < (x1.length : Int) then (J x0 x1 false (decide ((rd x0 x8) < 0)) (W (x7 + (W (t3 * (rd x1 x8))))) (W (x8 + 1))) else none) else none) else none) else none) else none) else none) else (if 0 ≤ x8 then (if x8 < (x0.length : Int) then ((spec_l3Abs.f k  (rd x0 x8)).bind fun t4 => if 0 ≤ x8 then (if x8 < (x1.length : Int) then (J x0 x1 false false (W (x7 + (W (t4 * (rd x1 x8))))) (W (x8 + 1))) else none) else none) else none) else none))) else (some ((x5, x6, x7, ()), (())))
noncomputable def spec_l6Sum.l5 (k : Nat)  : Nat → (List Int) → (List Int) → Bool → Bool → Int → Int → Option spec_l6Sum.B5
  | 0, _, _, _, _, _, _ => none
  | n + 1, x0, x1, x5, x6, x7, x8 => spec_l6Sum.s5 k (spec_l6Sum.l5 k n) x0 x1 x5 x6 x7 x8
noncomputable def spec_l6Sum.f (k : Nat) (a0 : List Int) (a1 : List Int) : Option Bool :=
  (spec_l6Sum.l5 k k a0 a1 true true 0 0).bind fun x5 => if x5.1.1 = true then (some (decide (x5.1.2.2.1 ≤ 0))) else (if x5.1.2.1 = true then (some (decide (x5.1.2.2.1 ≤ 0))) else (some false))
noncomputable def spec_l6Sum.e (k : Nat) : FE := { α := (List Int) × (List Int) × Unit, β := Bool, args := (lCons (aSl (.i .i64)) (lCons (aSl (.i .i64)) lNil)), ret := (rOne aB), f := fun p => spec_l6Sum.f k p.1 p.2.1 }
noncomputable def spec_l6Sum.c (k : Nat) : List (Nat × CE) := [(194, .fn (spec_l3Abs.e k))]
noncomputable def spec_l6Sum.bd : Code := match Try.f228.body with | some c => c | none => .skip
noncomputable def spec_l6Sum.e5 (k : Nat) : LE := { H := spec_l6Sum.H5, α := spec_l6Sum.A5, β := spec_l6Sum.B5, st := spec_l6Sum.Z5, xt := spec_l6Sum.X5, f := fun p => spec_l6Sum.l5 k k p.1.1 p.1.2.1 p.1.2.2.1 p.1.2.2.2.1 p.1.2.2.2.2.1 p.1.2.2.2.2.2.1 }
noncomputable def spec_l6Sum.g (k : Nat) : List (Nat × LE) := [(5, spec_l6Sum.e5 k)]
theorem spec_l6Sum.t5 (k : Nat) (I : S2 → Option spec_l6Sum.B5) (x0 : List Int) (x1 : List Int) (x5 : Bool) (x6 : Bool) (x7 : Int) (x8 : Int) : stepOf (mkCx Try.prog (spec_l6Sum.c k) (spec_l6Sum.g k) : Cx spec_l6Sum.B5) (loopAt spec_l6Sum.bd 0) spec_l6Sum.H5 spec_l6Sum.X5.dec I (spec_l6Sum.Z5.enc ((x0, x1, x5, x6, x7, x8, ()), (()))) = spec_l6Sum.s5 k (fun x0 x1 x5 x6 x7 x8 => I (spec_l6Sum.Z5.enc ((x0, x1, x5, x6, x7, x8, ()), (())))) x0 x1 x5 x6 x7 x8 := by kernel_rfl
theorem spec_l6Sum.i5 (k : Nat) : ∀ (n : Nat) (x0 : List Int) (x1 : List Int) (x5 : Bool) (x6 : Bool) (x7 : Int) (x8 : Int), iter (evCode (mkCx Try.prog (spec_l6Sum.c k) (spec_l6Sum.g k) : Cx spec_l6Sum.B5) (loopAt spec_l6Sum.bd 0)) spec_l6Sum.H5 spec_l6Sum.X5.dec n (spec_l6Sum.Z5.enc ((x0, x1, x5, x6, x7, x8, ()), (()))) = spec_l6Sum.l5 k n x0 x1 x5 x6 x7 x8
  | 0, _, _, _, _, _, _ => rfl
  | n + 1, x0, x1, x5, x6, x7, x8 => ((iter_step _ _ _ _ n _).trans (spec_l6Sum.t5 k _ x0 x1 x5 x6 x7 x8)).trans (congrArg (fun J => spec_l6Sum.s5 k J x0 x1 x5 x6 x7 x8) (funext fun x0 => funext fun x1 => funext fun x5 => funext fun x6 => funext fun x7 => funext fun x8 => spec_l6Sum.i5 k n x0 x1 x5 x6 x7 x8))
theorem spec_l6Sum.to5 (k : Nat) (hC : AllFun Try.prog (spec_l6Sum.c k)) : LoopTo Try.prog 51 (spec_l6Sum.e5 k) (loopAt spec_l6Sum.bd 0) := loop_to mixed hC (by kernel_rfl) (loops_all 0 (by kernel_rfl) fun i hi => absurd hi (Nat.not_lt_zero i)) fun a b h => ⟨k, (spec_l6Sum.i5 k k a.1.1 a.1.2.1 a.1.2.2.1 a.1.2.2.2.1 a.1.2.2.2.2.1 a.1.2.2.2.2.2.1).trans h⟩
theorem spec_l6Sum.link (k : Nat) (a0 : List Int) (a1 : List Int) : evFun (mkCx Try.prog (spec_l6Sum.c k) (spec_l6Sum.g k) : Cx Bool) Try.f228 ((spec_l6Sum.e k).args.enc (a0, a1, ())) (spec_l6Sum.e k).ret.dec = spec_l6Sum.f k a0 a1 := by kernel_rfl
theorem spec_l6Sum.ok1 (k : Nat) (hC : AllFun Try.prog (spec_l6Sum.c k)) : Fun Try.prog 228 (spec_l6Sum.e k).G := fun_ok mixed (body := spec_l6Sum.bd) Try.func228 (by kernel_rfl) (by kernel_rfl) (by kernel_rfl) hC (loops_all 1 (by kernel_rfl) fun i hi => by obtain rfl : i = 0 := Nat.lt_one_iff.1 hi; exact ⟨spec_l6Sum.e5 k, by kernel_rfl, spec_l6Sum.to5 k hC⟩) (spec_l6Sum.e k) (fun a => Nat.le_of_ble_eq_true (by kernel_rfl)) fun a b h => (spec_l6Sum.link k a.1 a.2.1).trans h
theorem spec_l6Sum.ok (k : Nat) : Fun Try.prog 228 (spec_l6Sum.e k).G := spec_l6Sum.ok1 k ⟨spec_l3Abs.ok k, trivial⟩

noncomputable def spec_l6Clash3.H7 : Hd := ⟨[], [3, 4, 5, 7, 8, 9, 10], [3, 4, 5, 7, 8, 9], []⟩
@[reducible] def spec_l6Clash3.A7 : Type := ((Unit × Unit × Unit × Unit × Unit × Unit × Int × Unit) × (S4 × S4 × S4 × S3 × S3 × S3 × Unit))
noncomputable def spec_l6Clash3.Z7 : SC spec_l6Clash3.A7 := sC spec_l6Clash3.H7 (eCons 3 (tRef 3 0) (eCons 4 (tRef 4 0) (eCons 5 (tRef 5 0) (eCons 7 (tRef 7 0) (eCons 8 (tRef 8 0) (eCons 9 (tRef 9 0) (eCons 10 (tP (aI .i64)) eNil))))))) (bCons 3 (xVr cS4) (bCons 4 (xVr cS4) (bCons 5 (xVr cS4) (bCons 7 (xVr cS3) (bCons 8 (xVr cS3) (bCons 9 (xVr cS3) bNil))))))
@[reducible] def spec_l6Clash3.B7 : Type := ((Bool × Unit) × (Unit)) ⊕ ((Unit) × (Unit))
noncomputable def spec_l6Clash3.X7 : XC spec_l6Clash3.B7 := xOr (xRet (sC ⟨[], [6], [], []⟩ (eCons 6 (tP aB) eNil) bNil)) (xExit 0 (sC ⟨[], [], [], []⟩ eNil bNil))
noncomputable def spec_l6Clash3.s7 (k : Nat)  (J : Int → S4 → S4 → S4 → S3 → S3 → S3 → Option spec_l6Clash3.B7) (x10 : Int) (b3 : S4) (b4 : S4) (b5 : S4) (b7 : S3) (b8 : S3) (b9 : S3) : Option spec_l6Clash3.B7 :=
  if (decide (x10 < 3)) = true then (if 0 ≤ x10 then (if x10 < 3 then (if ((sel [b7.x, b7.y, b7.z] x10) != 0) = true then (if 0 ≤ x10 then (if x10 < 3 then (if 0 ≤ x10 then (if x10 < 3 then (if 0 ≤ x10 then (if x10 < 3 then ((spec_l6Sum.f k  ([(sel [b7.x, b7.y, b7.z] x10), (sel [b8.x, b8.y, b8.z] x10), (sel [b9.x, b9.y, b9.z] x10)] : List Int) ([b3.d, b4.d, b5.d] : List Int)).bind fun t5 => some (.inl ((t5, ()), (())))) else none) else none) else none) else none) else none) else none) else (if 0 ≤ x10 then (if x10 < 3 then (if ((sel [b8.x, b8.y, b8.z] x10) != 0) = true then (if 0 ≤ x10 then (if x10 < 3 then (if 0 ≤ x10 then (if x10 < 3 then (if 0 ≤ x10 then (if x10 < 3 then ((spec_l6Sum.f k  ([(sel [b7.x, b7.y, b7.z] x10), (sel [b8.x, b8.y, b8.z] x10), (sel [b9.x, b9.y, b9.z] x10)] : List Int) ([b3.d, b4.d, b5.d] : List Int)).bind fun t6 => some (.inl ((t6, ()), (())))) else none) else none) else none) else none) else none) else none) else (if 0 ≤ x10 then (if x10 < 3 then (if ((sel [b9.x, b9.y, b9.z] x10) != 0) = true then (if 0 ≤ x10 then (if x10 < 3 then (if 0 ≤ x10 then (if x10 < 3 then (if 0 ≤ x10 then (if x10 < 3 then ((spec_l6Sum.f k  ([(sel [b7.x, b7.y, b7.z] x10), (sel [b8.x, b8.y, b8.z] x10), (sel [b9.x, b9.y, b9.z] x10)] : List Int) ([b3.d, b4.d, b5.d] : List Int)).bind fun t7 => some (.inl ((t7, ()), (())))) else none) else none) else none) else none) else none) else none) else (J (W (x10 + 1)) b3 b4 b5 b7 b8 b9)) else none) else none)) else none) else none)) else none) else none) else (some (.inr ((()), (()))))
noncomputable def spec_l6Clash3.l7 (k : Nat)  : Nat → Int → S4 → S4 → S4 → S3 → S3 → S3 → Option spec_l6Clash3.B7
  | 0, _, _, _, _, _, _, _ => none
  | n + 1, x10, b3, b4, b5, b7, b8, b9 => spec_l6Clash3.s7 k (spec_l6Clash3.l7 k n) x10 b3 b4 b5 b7 b8 b9
noncomputable def spec_l6Clash3.f (k : Nat) (a0 : S4) (a1 : S4) (a2 : S4) : Option Bool :=
  (spec_l4Det3.f k  a0 a1 a2).bind fun t1 => if (t1 != 0) = true then (some false) else ((spec_l4Cross.f k  a1 a2).bind fun t2 => (spec_l4Cross.f k  a2 a0).bind fun t3 => (spec_l4Cross.f k  a0 a1).bind fun t4 => (spec_l6Clash3.l7 k k 0 a0 a1 a2 t2 t3 t4).bind fun | .inl r8 => (some r8.1.1) | .inr x9 => (some false))
noncomputable def spec_l6Clash3.e (k : Nat) : FE := { α := S4 × S4 × S4 × Unit, β := Bool, args := (lCons aS4 (lCons aS4 (lCons aS4 lNil))), ret := (rOne aB), f := fun p => spec_l6Clash3.f k p.1 p.2.1 p.2.2.1 }
noncomputable def spec_l6Clash3.c (k : Nat) : List (Nat × CE) := [(137, .fn (spec_l4Det3.e k)), (193, .fn (spec_l4Cross.e k)), (228, .fn (spec_l6Sum.e k))]
noncomputable def spec_l6Clash3.bd : Code := match Try.f209.body with | some c => c | none => .skip
noncomputable def spec_l6Clash3.e7 (k : Nat) : LE := { H := spec_l6Clash3.H7, α := spec_l6Clash3.A7, β := spec_l6Clash3.B7, st := spec_l6Clash3.Z7, xt := spec_l6Clash3.X7, f := fun p => spec_l6Clash3.l7 k k p.1.2.2.2.2.2.2.1 p.2.1 p.2.2.1 p.2.2.2.1 p.2.2.2.2.1 p.2.2.2.2.2.1 p.2.2.2.2.2.2.1 }
noncomputable def spec_l6Clash3.g (k : Nat) : List (Nat × LE) := [(7, spec_l6Clash3.e7 k)]
theorem spec_l6Clash3.t7 (k : Nat) (I : S2 → Option spec_l6Clash3.B7) (x10 : Int) (b3 : S4) (b4 : S4) (b5 : S4) (b7 : S3) (b8 : S3) (b9 : S3) : stepOf (mkCx Try.prog (spec_l6Clash3.c k) (spec_l6Clash3.g k) : Cx spec_l6Clash3.B7) (loopAt spec_l6Clash3.bd 0) spec_l6Clash3.H7 spec_l6Clash3.X7.dec I (spec_l6Clash3.Z7.enc (((), (), (), (), (), (), x10, ()), (b3, b4, b5, b7, b8, b9, ()))) = spec_l6Clash3.s7 k (fun x10 b3 b4 b5 b7 b8 b9 => I (spec_l6Clash3.Z7.enc (((), (), (), (), (), (), x10, ()), (b3, b4, b5, b7, b8, b9, ())))) x10 b3 b4 b5 b7 b8 b9 := by kernel_rfl
theorem spec_l6Clash3.i7 (k : Nat) : ∀ (n : Nat) (x10 : Int) (b3 : S4) (b4 : S4) (b5 : S4) (b7 : S3) (b8 : S3) (b9 : S3), iter (evCode (mkCx Try.prog (spec_l6Clash3.c k) (spec_l6Clash3.g k) : Cx spec_l6Clash3.B7) (loopAt spec_l6Clash3.bd 0)) spec_l6Clash3.H7 spec_l6Clash3.X7.dec n (spec_l6Clash3.Z7.enc (((), (), (), (), (), (), x10, ()), (b3, b4, b5, b7, b8, b9, ()))) = spec_l6Clash3.l7 k n x10 b3 b4 b5 b7 b8 b9
  | 0, _, _, _, _, _, _, _ => rfl
  | n + 1, x10, b3, b4, b5, b7, b8, b9 => ((iter_step _ _ _ _ n _).trans (spec_l6Clash3.t7 k _ x10 b3 b4 b5 b7 b8 b9)).trans (congrArg (fun J => spec_l6Clash3.s7 k J x10 b3 b4 b5 b7 b8 b9) (funext fun x10 => funext fun b3 => funext fun b4 => funext fun b5 => funext fun b7 => funext fun b8 => funext fun b9 => spec_l6Clash3.i7 k n x10 b3 b4 b5 b7 b8 b9))
theorem spec_l6Clash3.to7 (k : Nat) (hC : AllFun Try.prog (spec_l6Clash3.c k)) : LoopTo Try.prog 63 (spec_l6Clash3.e7 k) (loopAt spec_l6Clash3.bd 0) := loop_to mixed hC (by kernel_rfl) (loops_all 0 (by kernel_rfl) fun i hi => absurd hi (Nat.not_lt_zero i)) fun a b h => ⟨k, (spec_l6Clash3.i7 k k a.1.2.2.2.2.2.2.1 a.2.1 a.2.2.1 a.2.2.2.1 a.2.2.2.2.1 a.2.2.2.2.2.1 a.2.2.2.2.2.2.1).trans h⟩
theorem spec_l6Clash3.link (k : Nat) (a0 : S4) (a1 : S4) (a2 : S4) : evFun (mkCx Try.prog (spec_l6Clash3.c k) (spec_l6Clash3.g k) : Cx Bool) Try.f209 ((spec_l6Clash3.e k).args.enc (a0, a1, a2, ())) (spec_l6Clash3.e k).ret.dec = spec_l6Clash3.f k a0 a1 a2 := by kernel_rfl
theorem spec_l6Clash3.ok1 (k : Nat) (hC : AllFun Try.prog (spec_l6Clash3.c k)) : Fun Try.prog 209 (spec_l6Clash3.e k).G := fun_ok mixed (body := spec_l6Clash3.bd) Try.func209 (by kernel_rfl) (by kernel_rfl) (by kernel_rfl) hC (loops_all 1 (by kernel_rfl) fun i hi => by obtain rfl : i = 0 := Nat.lt_one_iff.1 hi; exact ⟨spec_l6Clash3.e7 k, by kernel_rfl, spec_l6Clash3.to7 k hC⟩) (spec_l6Clash3.e k) (fun a => Nat.le_of_ble_eq_true (by kernel_rfl)) fun a b h => (spec_l6Clash3.link k a.1 a.2.1 a.2.2.1).trans h
theorem spec_l6Clash3.ok (k : Nat) : Fun Try.prog 209 (spec_l6Clash3.e k).G := spec_l6Clash3.ok1 k ⟨spec_l4Det3.ok k, spec_l4Cross.ok k, spec_l6Sum.ok k, trivial⟩

noncomputable def spec_l6Clash4.f (k : Nat) (a0 : S4) (a1 : S4) (a2 : S4) (a3 : S4) : Option Bool :=
  (spec_l4Det3.f k  a1 a2 a3).bind fun t1 => (spec_l4Det3.f k  a0 a2 a3).bind fun t2 => (spec_l4Det3.f k  a0 a1 a3).bind fun t3 => (spec_l4Det3.f k  a0 a1 a2).bind fun t4 => (spec_l6Sum.f k  ([t1, (W (0 - t2)), t3, (W (0 - t4))] : List Int) ([a0.d, a1.d, a2.d, a3.d] : List Int)).bind fun t5 => some t5
noncomputable def spec_l6Clash4.e (k : Nat) : FE := { α := S4 × S4 × S4 × S4 × Unit, β := Bool, args := (lCons aS4 (lCons aS4 (lCons aS4 (lCons aS4 lNil)))), ret := (rOne aB), f := fun p => spec_l6Clash4.f k p.1 p.2.1 p.2.2.1 p.2.2.2.1 }
noncomputable def spec_l6Clash4.c (k : Nat) : List (Nat × CE) := [(137, .fn (spec_l4Det3.e k)), (228, .fn (spec_l6Sum.e k))]
noncomputable def spec_l6Clash4.bd : Code := match Try.f210.body with | some c => c | none => .skip
noncomputable def spec_l6Clash4.g (k : Nat) : List (Nat × LE) := []
theorem spec_l6Clash4.link (k : Nat) (a0 : S4) (a1 : S4) (a2 : S4) (a3 : S4) : evFun (mkCx Try.prog (spec_l6Clash4.c k) (spec_l6Clash4.g k) : Cx Bool) Try.f210 ((spec_l6Clash4.e k).args.enc (a0, a1, a2, a3, ())) (spec_l6Clash4.e k).ret.dec = spec_l6Clash4.f k a0 a1 a2 a3 := by kernel_rfl
theorem spec_l6Clash4.ok1 (k : Nat) (hC : AllFun Try.prog (spec_l6Clash4.c k)) : Fun Try.prog 210 (spec_l6Clash4.e k).G := fun_ok mixed (body := spec_l6Clash4.bd) Try.func210 (by kernel_rfl) (by kernel_rfl) (by kernel_rfl) hC (loops_all 0 (by kernel_rfl) fun i hi => absurd hi (Nat.not_lt_zero i)) (spec_l6Clash4.e k) (fun a => Nat.le_of_ble_eq_true (by kernel_rfl)) fun a b h => (spec_l6Clash4.link k a.1 a.2.1 a.2.2.1 a.2.2.2.1).trans h
theorem spec_l6Clash4.ok (k : Nat) : Fun Try.prog 210 (spec_l6Clash4.e k).G := spec_l6Clash4.ok1 k ⟨spec_l4Det3.ok k, spec_l6Sum.ok k, trivial⟩

noncomputable def spec_l6With.H13 : Hd := ⟨[], [0, 3, 5, 6, 7, 8], [3], []⟩
@[reducible] def spec_l6With.A13 : Type := (((List S4) × Unit × Int × Int × Int × Int × Unit) × (S4 × Unit))
noncomputable def spec_l6With.Z13 : SC spec_l6With.A13 := sC spec_l6With.H13 (eCons 0 (tP (aSl .s4)) (eCons 3 (tRef 3 0) (eCons 5 (tP (aI .i64)) (eCons 6 (tP (aI .i64)) (eCons 7 (tP (aI .i64)) (eCons 8 (tP (aI .i64)) eNil)))))) (bCons 3 (xVr cS4) bNil)
@[reducible] def spec_l6With.B13 : Type := ((Bool × Unit) × (Unit)) ⊕ (((List S4) × Unit × Int × Int × Int × Unit) × (S4 × Unit))
noncomputable def spec_l6With.X13 : XC spec_l6With.B13 := xOr (xRet (sC ⟨[], [4], [], []⟩ (eCons 4 (tP aB) eNil) bNil)) (xExit 4 (sC ⟨[], [0, 3, 5, 6, 7], [3], []⟩ (eCons 0 (tP (aSl .s4)) (eCons 3 (tRef 3 0) (eCons 5 (tP (aI .i64)) (eCons 6 (tP (aI .i64)) (eCons 7 (tP (aI .i64)) eNil))))) (bCons 3 (xVr cS4) bNil)))
noncomputable def spec_l6With.s13 (k : Nat)  (J : (List S4) → Int → Int → Int → Int → S4 → Option spec_l6With.B13) (x0 : List S4) (x5 : Int) (x6 : Int) (x7 : Int) (x8 : Int) (b3 : S4) : Option spec_l6With.B13 :=
  if (decide (x8 < x5)) = true then (if 0 ≤ x6 then (if x6 < (x0.length : Int) then (if 0 ≤ x7 then (if x7 < (x0.length : Int) then (if 0 ≤ x8 then (if x8 < (x0.length : Int) then ((spec_l6Clash4.f k  (rd x0 x6) (rd x0 x7) (rd x0 x8) b3).bind fun t3 => if t3 = true then (some (.inl ((true, ()), (())))) else (J x0 x5 x6 x7 (W (x8 + 1)) b3)) else none) else none) else none) else none) else none) else none) else (some (.inr ((x0, (), x5, x6, x7, ()), (b3, ()))))
noncomputable def spec_l6With.l13 (k : Nat)  : Nat → (List S4) → Int → Int → Int → Int → S4 → Option spec_l6With.B13
  | 0, _, _, _, _, _, _ => none
  | n + 1, x0, x5, x6, x7, x8, b3 => spec_l6With.s13 k (spec_l6With.l13 k n) x0 x5 x6 x7 x8 b3
noncomputable def spec_l6With.H8 : Hd := ⟨[], [0, 3, 5, 6, 7], [3], []⟩
@[reducible] def spec_l6With.A8 : Type := (((List S4) × Unit × Int × Int × Int × Unit) × (S4 × Unit))
noncomputable def spec_l6With.Z8 : SC spec_l6With.A8 := sC spec_l6With.H8 (eCons 0 (tP (aSl .s4)) (eCons 3 (tRef 3 0) (eCons 5 (tP (aI .i64)) (eCons 6 (tP (aI .i64)) (eCons 7 (tP (aI .i64)) eNil))))) (bCons 3 (xVr cS4) bNil)
@[reducible] def spec_l6With.B8 : Type := ((Bool × Unit) × (Unit)) ⊕ (((List S4) × Unit × Int × Int × Unit) × (S4 × Unit))
noncomputable def spec_l6With.X8 : XC spec_l6With.B8 := xOr (xRet (sC ⟨[], [4], [], []⟩ (eCons 4 (tP aB) eNil) bNil)) (xExit 2 (sC ⟨[], [0, 3, 5, 6], [3], []⟩ (eCons 0 (tP (aSl .s4)) (eCons 3 (tRef 3 0) (eCons 5 (tP (aI .i64)) (eCons 6 (tP (aI .i64)) eNil)))) (bCons 3 (xVr cS4) bNil)))
noncomputable def spec_l6With.s8 (k : Nat)  (J : (List S4) → Int → Int → Int → S4 → Option spec_l6With.B8) (x0 : List S4) (x5 : Int) (x6 : Int) (x7 : Int) (b3 : S4) : Option spec_l6With.B8 :=
  if (decide (x7 < x5)) = true then (if 0 ≤ x6 then (if x6 < (x0.length : Int) then (if 0 ≤ x7 then (if x7 < (x0.length : Int) then ((spec_l6Clash3.f k  (rd x0 x6) (rd x0 x7) b3).bind fun t2 => if t2 = true then (some (.inl ((true, ()), (())))) else ((spec_l6With.l13 k k x0 x5 x6 x7 (W (x7 + 1)) b3).bind fun | .inl r4 => (some (.inl ((r4.1.1, ()), (())))) | .inr x5 => (J x5.1.1 x5.1.2.2.1 x5.1.2.2.2.1 (W (x5.1.2.2.2.2.1 + 1)) x5.2.1))) else none) else none) else none) else none) else (some (.inr ((x0, (), x5, x6, ()), (b3, ()))))
noncomputable def spec_l6With.l8 (k : Nat)  : Nat → (List S4) → Int → Int → Int → S4 → Option spec_l6With.B8
  | 0, _, _, _, _, _ => none
  | n + 1, x0, x5, x6, x7, b3 => spec_l6With.s8 k (spec_l6With.l8 k n) x0 x5 x6 x7 b3
noncomputable def spec_l6With.H3 : Hd := ⟨[], [0, 3, 5, 6], [3], []⟩
@[reducible] def spec_l6With.A3 : Type := (((List S4) × Unit × Int × Int × Unit) × (S4 × Unit))
noncomputable def spec_l6With.Z3 : SC spec_l6With.A3 := sC spec_l6With.H3 (eCons 0 (tP (aSl .s4)) (eCons 3 (tRef 3 0) (eCons 5 (tP (aI .i64)) (eCons 6 (tP (aI .i64)) eNil)))) (bCons 3 (xVr cS4) bNil)
@[reducible] def spec_l6With.B3 : Type := ((Bool × Unit) × (Unit)) ⊕ ((Unit) × (Unit))
noncomputable def spec_l6With.X3 : XC spec_l6With.B3 := xOr (xRet (sC ⟨[], [4], [], []⟩ (eCons 4 (tP aB) eNil) bNil)) (xExit 0 (sC ⟨[], [], [], []⟩ eNil bNil))
noncomputable def spec_l6With.s3 (k : Nat)  (J : (List S4) → Int → Int → S4 → Option spec_l6With.B3) (x0 : List S4) (x5 : Int) (x6 : Int) (b3 : S4) : Option spec_l6With.B3 :=
  if (decide (x6 < x5)) = true then (if 0 ≤ x6 then (if x6 < (x0.length : Int) then ((spec_l6Clash2.f k  (rd x0 x6) b3).bind fun t1 => if t1 = true then (some (.inl ((true, ()), (())))) else ((spec_l6With.l8 k k x0 x5 x6 (W (x6 + 1)) b3).bind fun | .inl r6 => (some (.inl ((r6.1.1, ()), (())))) | .inr x7 => (J x7.1.1 x7.1.2.2.1 (W (x7.1.2.2.2.1 + 1)) x7.2.1))) else none) else none) else (some (.inr ((()), (()))))
noncomputable def spec_l6With.l3 (k : Nat)  : Nat → (List S4) → Int → Int → S4 → Option spec_l6With.B3
  | 0, _, _, _, _ => none
  | n + 1, x0, x5, x6, b3 => spec_l6With.s3 k (spec_l6With.l3 k n) x0 x5 x6 b3
noncomputable def spec_l6With.f (k : Nat) (a0 : List S4) (a1 : S4) : Option Bool :=
  (spec_l6With.l3 k k a0 (a0.length : Int) 0 a1).bind fun | .inl r8 => (some r8.1.1) | .inr x9 => (some false)
noncomputable def spec_l6With.e (k : Nat) : FE := { α := (List S4) × S4 × Unit, β := Bool, args := (lCons (aSl .s4) (lCons aS4 lNil)), ret := (rOne aB), f := fun p => spec_l6With.f k p.1 p.2.1 }
noncomputable def spec_l6With.c (k : Nat) : List (Nat × CE) := [(208, .fn (spec_l6Clash2.e k)), (209, .fn (spec_l6Clash3.e k)), (210, .fn (spec_l6Clash4.e k))]
noncomputable def spec_l6With.bd : Code := match Try.f163.body with | some c => c | none => .skip
noncomputable def spec_l6With.e13 (k : Nat) : LE := { H := spec_l6With.H13, α := spec_l6With.A13, β := spec_l6With.B13, st := spec_l6With.Z13, xt := spec_l6With.X13, f := fun p => spec_l6With.l13 k k p.1.1 p.1.2.2.1 p.1.2.2.2.1 p.1.2.2.2.2.1 p.1.2.2.2.2.2.1 p.2.1 }
noncomputable def spec_l6With.e8 (k : Nat) : LE := { H := spec_l6With.H8, α := spec_l6With.A8, β := spec_l6With.B8, st := spec_l6With.Z8, xt := spec_l6With.X8, f := fun p => spec_l6With.l8 k k p.1.1 p.1.2.2.1 p.1.2.2.2.1 p.1.2.2.2.2.1 p.2.1 }
noncomputable def spec_l6With.e3 (k : Nat) : LE := { H := spec_l6With.H3, α := spec_l6With.A3, β := spec_l6With.B3, st := spec_l6With.Z3, xt := spec_l6With.X3, f := fun p => spec_l6With.l3 k k p.1.1 p.1.2.2.1 p.1.2.2.2.1 p.2.1 }
noncomputable def spec_l6With.g (k : Nat) : List (Nat × LE) := [(13, spec_l6With.e13 k), (8, spec_l6With.e8 k), (3, spec_l6With.e3 k)]
theorem spec_l6With.t13 (k : Nat) (I : S2 → Option spec_l6With.B13) (x0 : List S4) (x5 : Int) (x6 : Int) (x7 : Int) (x8 : Int) (b3 : S4) : stepOf (mkCx Try.prog (spec_l6With.c k) (spec_l6With.g k) : Cx spec_l6With.B13) (loopAt (loopAt (loopAt spec_l6With.bd 0) 0) 0) spec_l6With.H13 spec_l6With.X13.dec I (spec_l6With.Z13.enc ((x0, (), x5, x6, x7, x8, ()), (b3, ()))) = spec_l6With.s13 k (fun x0 x5 x6 x7 x8 b3 => I (spec_l6With.Z13.enc ((x0, (), x5, x6, x7, x8, ()), (b3, ())))) x0 x5 x6 x7 x8 b3 := by kernel_rfl
theorem spec_l6With.i13 (k : Nat) : ∀ (n : Nat) (x0 : List S4) (x5 : Int) (x6 : Int) (x7 : Int) (x8 : Int) (b3 : S4), iter (evCode (mkCx Try.prog (spec_l6With.c k) (spec_l6With.g k) : Cx spec_l6With.B13) (loopAt (loopAt (loopAt spec_l6With.bd 0) 0) 0)) spec_l6With.H13 spec_l6With.X13.dec n (spec_l6With.Z13.enc ((x0, (), x5, x6, x7, x8, ()), (b3, ()))) = spec_l6With.l13 k n x0 x5 x6 x7 x8 b3
  | 0, _, _, _, _, _, _ => rfl
  | n + 1, x0, x5, x6, x7, x8, b3 => ((iter_step _ _ _ _ n _).trans (spec_l6With.t13 k _ x0 x5 x6 x7 x8 b3)).trans (congrArg (fun J => spec_l6With.s13 k J x0 x5 x6 x7 x8 b3) (funext fun x0 => funext fun x5 => funext fun x6 => funext fun x7 => funext fun x8 => funext fun b3 => spec_l6With.i13 k n x0 x5 x6 x7 x8 b3))
theorem spec_l6With.t8 (k : Nat) (I : S2 → Option spec_l6With.B8) (x0 : List S4) (x5 : Int) (x6 : Int) (x7 : Int) (b3 : S4) : stepOf (mkCx Try.prog (spec_l6With.c k) (spec_l6With.g k) : Cx spec_l6With.B8) (loopAt (loopAt spec_l6With.bd 0) 0) spec_l6With.H8 spec_l6With.X8.dec I (spec_l6With.Z8.enc ((x0, (), x5, x6, x7, ()), (b3, ()))) = spec_l6With.s8 k (fun x0 x5 x6 x7 b3 => I (spec_l6With.Z8.enc ((x0, (), x5, x6, x7, ()), (b3, ())))) x0 x5 x6 x7 b3 := by kernel_rfl
theorem spec_l6With.i8 (k : Nat) : ∀ (n : Nat) (x0 : List S4) (x5 : Int) (x6 : Int) (x7 : Int) (b3 : S4), iter (evCode (mkCx Try.prog (spec_l6With.c k) (spec_l6With.g k) : Cx spec_l6With.B8) (loopAt (loopAt spec_l6With.bd 0) 0)) spec_l6With.H8 spec_l6With.X8.dec n (spec_l6With.Z8.enc ((x0, (), x5, x6, x7, ()), (b3, ()))) = spec_l6With.l8 k n x0 x5 x6 x7 b3
  | 0, _, _, _, _, _ => rfl
  | n + 1, x0, x5, x6, x7, b3 => ((iter_step _ _ _ _ n _).trans (spec_l6With.t8 k _ x0 x5 x6 x7 b3)).trans (congrArg (fun J => spec_l6With.s8 k J x0 x5 x6 x7 b3) (funext fun x0 => funext fun x5 => funext fun x6 => funext fun x7 => funext fun b3 => spec_l6With.i8 k n x0 x5 x6 x7 b3))
theorem spec_l6With.t3 (k : Nat) (I : S2 → Option spec_l6With.B3) (x0 : List S4) (x5 : Int) (x6 : Int) (b3 : S4) : stepOf (mkCx Try.prog (spec_l6With.c k) (spec_l6With.g k) : Cx spec_l6With.B3) (loopAt spec_l6With.bd 0) spec_l6With.H3 spec_l6With.X3.dec I (spec_l6With.Z3.enc ((x0, (), x5, x6, ()), (b3, ()))) = spec_l6With.s3 k (fun x0 x5 x6 b3 => I (spec_l6With.Z3.enc ((x0, (), x5, x6, ()), (b3, ())))) x0 x5 x6 b3 := by kernel_rfl
theorem spec_l6With.i3 (k : Nat) : ∀ (n : Nat) (x0 : List S4) (x5 : Int) (x6 : Int) (b3 : S4), iter (evCode (mkCx Try.prog (spec_l6With.c k) (spec_l6With.g k) : Cx spec_l6With.B3) (loopAt spec_l6With.bd 0)) spec_l6With.H3 spec_l6With.X3.dec n (spec_l6With.Z3.enc ((x0, (), x5, x6, ()), (b3, ()))) = spec_l6With.l3 k n x0 x5 x6 b3
  | 0, _, _, _, _ => rfl
  | n + 1, x0, x5, x6, b3 => ((iter_step _ _ _ _ n _).trans (spec_l6With.t3 k _ x0 x5 x6 b3)).trans (congrArg (fun J => spec_l6With.s3 k J x0 x5 x6 b3) (funext fun x0 => funext fun x5 => funext fun x6 => funext fun b3 => spec_l6With.i3 k n x0 x5 x6 b3))
theorem spec_l6With.to13 (k : Nat) (hC : AllFun Try.prog (spec_l6With.c k)) : LoopTo Try.prog 60 (spec_l6With.e13 k) (loopAt (loopAt (loopAt spec_l6With.bd 0) 0) 0) := loop_to mixed hC (by kernel_rfl) (loops_all 0 (by kernel_rfl) fun i hi => absurd hi (Nat.not_lt_zero i)) fun a b h => ⟨k, (spec_l6With.i13 k k a.1.1 a.1.2.2.1 a.1.2.2.2.1 a.1.2.2.2.2.1 a.1.2.2.2.2.2.1 a.2.1).trans h⟩
theorem spec_l6With.to8 (k : Nat) (hC : AllFun Try.prog (spec_l6With.c k)) : LoopTo Try.prog 60 (spec_l6With.e8 k) (loopAt (loopAt spec_l6With.bd 0) 0) := loop_to mixed hC (by kernel_rfl) (loops_all 1 (by kernel_rfl) fun i hi => by obtain rfl : i = 0 := Nat.lt_one_iff.1 hi; exact ⟨spec_l6With.e13 k, by kernel_rfl, spec_l6With.to13 k hC⟩) fun a b h => ⟨k, (spec_l6With.i8 k k a.1.1 a.1.2.2.1 a.1.2.2.2.1 a.1.2.2.2.2.1 a.2.1).trans h⟩
theorem spec_l6With.to3 (k : Nat) (hC : AllFun Try.prog (spec_l6With.c k)) : LoopTo Try.prog 60 (spec_l6With.e3 k) (loopAt spec_l6With.bd 0) := loop_to mixed hC (by kernel_rfl) (loops_all 1 (by kernel_rfl) fun i hi => by obtain rfl : i = 0 := Nat.lt_one_iff.1 hi; exact ⟨spec_l6With.e8 k, by kernel_rfl, spec_l6With.to8 k hC⟩) fun a b h => ⟨k, (spec_l6With.i3 k k a.1.1 a.1.2.2.1 a.1.2.2.2.1 a.2.1).trans h⟩
theorem spec_l6With.link (k : Nat) (a0 : List S4) (a1 : S4) : evFun (mkCx Try.prog (spec_l6With.c k) (spec_l6With.g k) : Cx Bool) Try.f163 ((spec_l6With.e k).args.enc (a0, a1, ())) (spec_l6With.e k).ret.dec = spec_l6With.f k a0 a1 := by kernel_rfl
theorem spec_l6With.ok1 (k : Nat) (hC : AllFun Try.prog (spec_l6With.c k)) : Fun Try.prog 163 (spec_l6With.e k).G := fun_ok mixed (body := spec_l6With.bd) Try.func163 (by kernel_rfl) (by kernel_rfl) (by kernel_rfl) hC (loops_all 1 (by kernel_rfl) fun i hi => by obtain rfl : i = 0 := Nat.lt_one_iff.1 hi; exact ⟨spec_l6With.e3 k, by kernel_rfl, spec_l6With.to3 k hC⟩) (spec_l6With.e k) (fun a => Nat.le_of_ble_eq_true (by kernel_rfl)) fun a b h => (spec_l6With.link k a.1 a.2.1).trans h
theorem spec_l6With.ok (k : Nat) : Fun Try.prog 163 (spec_l6With.e k).G := spec_l6With.ok1 k ⟨spec_l6Clash2.ok k, spec_l6Clash3.ok k, spec_l6Clash4.ok k, trivial⟩

noncomputable def spec_l6Open.H2 : Hd := ⟨[], [0, 3], [], []⟩
@[reducible] def spec_l6Open.A2 : Type := (((List S4) × Int × Unit) × (Unit))
noncomputable def spec_l6Open.Z2 : SC spec_l6Open.A2 := sC spec_l6Open.H2 (eCons 0 (tP (aSl .s4)) (eCons 3 (tP (aI .i64)) eNil)) bNil
@[reducible] def spec_l6Open.B2 : Type := ((Bool × Unit) × (Unit)) ⊕ ((Unit) × (Unit))
noncomputable def spec_l6Open.X2 : XC spec_l6Open.B2 := xOr (xRet (sC ⟨[], [2], [], []⟩ (eCons 2 (tP aB) eNil) bNil)) (xExit 0 (sC ⟨[], [], [], []⟩ eNil bNil))
noncomputable def spec_l6Open.s2 (k : Nat)  (J : (List S4) → Int → Option spec_l6Open.B2) (x0 : List S4) (x3 : Int) : Option spec_l6Open.B2 :=
  if (decide (x3 < (x0.length : Int))) = true then (if 0 ≤ x3 then (if x3 ≤ (x0.length : Int) then (if 0 ≤ x3 then (if x3 < (x0.length : Int) then ((spec_l6With.f k  (x0.take x3.toNat) (rd x0 x3)).bind fun t1 => if t1 = true then (some (.inl ((false, ()), (())))) else (J x0 (W (x3 + 1)))) else none) else none) else none) else none) else (some (.inr ((()), (()))))
noncomputable def spec_l6Open.l2 (k : Nat)  : Nat → (List S4) → Int → Option spec_l6Open.B2
  | 0, _, _ => none
  | n + 1, x0, x3 => spec_l6Open.s2 k (spec_l6Open.l2 k n) x0 x3
noncomputable def spec_l6Open.f (k : Nat) (a0 : List S4) : Option Bool :=
  (spec_l6Open.l2 k k a0 1).bind fun | .inl r2 => (some r2.1.1) | .inr x3 => (some true)
noncomputable def spec_l6Open.e (k : Nat) : FE := { α := (List S4) × Unit, β := Bool, args := (lCons (aSl .s4) lNil), ret := (rOne aB), f := fun p => spec_l6Open.f k p.1 }
noncomputable def spec_l6Open.c (k : Nat) : List (Nat × CE) := [(163, .fn (spec_l6With.e k))]
noncomputable def spec_l6Open.bd : Code := match Try.f95.body with | some c => c | none => .skip
noncomputable def spec_l6Open.e2 (k : Nat) : LE := { H := spec_l6Open.H2, α := spec_l6Open.A2, β := spec_l6Open.B2, st := spec_l6Open.Z2, xt := spec_l6Open.X2, f := fun p => spec_l6Open.l2 k k p.1.1 p.1.2.1 }
noncomputable def spec_l6Open.g (k : Nat) : List (Nat × LE) := [(2, spec_l6Open.e2 k)]
theorem spec_l6Open.t2 (k : Nat) (I : S2 → Option spec_l6Open.B2) (x0 : List S4) (x3 : Int) : stepOf (mkCx Try.prog (spec_l6Open.c k) (spec_l6Open.g k) : Cx spec_l6Open.B2) (loopAt spec_l6Open.bd 0) spec_l6Open.H2 spec_l6Open.X2.dec I (spec_l6Open.Z2.enc ((x0, x3, ()), (()))) = spec_l6Open.s2 k (fun x0 x3 => I (spec_l6Open.Z2.enc ((x0, x3, ()), (())))) x0 x3 := by kernel_rfl
theorem spec_l6Open.i2 (k : Nat) : ∀ (n : Nat) (x0 : List S4) (x3 : Int), iter (evCode (mkCx Try.prog (spec_l6Open.c k) (spec_l6Open.g k) : Cx spec_l6Open.B2) (loopAt spec_l6Open.bd 0)) spec_l6Open.H2 spec_l6Open.X2.dec n (spec_l6Open.Z2.enc ((x0, x3, ()), (()))) = spec_l6Open.l2 k n x0 x3
  | 0, _, _ => rfl
  | n + 1, x0, x3 => ((iter_step _ _ _ _ n _).trans (spec_l6Open.t2 k _ x0 x3)).trans (congrArg (fun J => spec_l6Open.s2 k J x0 x3) (funext fun x0 => funext fun x3 => spec_l6Open.i2 k n x0 x3))
theorem spec_l6Open.to2 (k : Nat) (hC : AllFun Try.prog (spec_l6Open.c k)) : LoopTo Try.prog 18 (spec_l6Open.e2 k) (loopAt spec_l6Open.bd 0) := loop_to mixed hC (by kernel_rfl) (loops_all 0 (by kernel_rfl) fun i hi => absurd hi (Nat.not_lt_zero i)) fun a b h => ⟨k, (spec_l6Open.i2 k k a.1.1 a.1.2.1).trans h⟩
theorem spec_l6Open.link (k : Nat) (a0 : List S4) : evFun (mkCx Try.prog (spec_l6Open.c k) (spec_l6Open.g k) : Cx Bool) Try.f95 ((spec_l6Open.e k).args.enc (a0, ())) (spec_l6Open.e k).ret.dec = spec_l6Open.f k a0 := by kernel_rfl
theorem spec_l6Open.ok1 (k : Nat) (hC : AllFun Try.prog (spec_l6Open.c k)) : Fun Try.prog 95 (spec_l6Open.e k).G := fun_ok mixed (body := spec_l6Open.bd) Try.func95 (by kernel_rfl) (by kernel_rfl) (by kernel_rfl) hC (loops_all 1 (by kernel_rfl) fun i hi => by obtain rfl : i = 0 := Nat.lt_one_iff.1 hi; exact ⟨spec_l6Open.e2 k, by kernel_rfl, spec_l6Open.to2 k hC⟩) (spec_l6Open.e k) (fun a => Nat.le_of_ble_eq_true (by kernel_rfl)) fun a b h => (spec_l6Open.link k a.1).trans h
theorem spec_l6Open.ok (k : Nat) : Fun Try.prog 95 (spec_l6Open.e k).G := spec_l6Open.ok1 k ⟨spec_l6With.ok k, trivial⟩

noncomputable def spec_Open.f (k : Nat) (a0 : List S4) : Option Bool :=
  (spec_l6Right.f k  a0).bind fun t1 => if t1 = true then ((spec_l6Open.f k  a0).bind fun t2 => some t2) else (some false)
noncomputable def spec_Open.e (k : Nat) : FE := { α := (List S4) × Unit, β := Bool, args := (lCons (aSl .s4) lNil), ret := (rOne aB), f := fun p => spec_Open.f k p.1 }
noncomputable def spec_Open.c (k : Nat) : List (Nat × CE) := [(94, .fn (spec_l6Right.e k)), (95, .fn (spec_l6Open.e k))]
noncomputable def spec_Open.bd : Code := match Try.f78.body with | some c => c | none => .skip
noncomputable def spec_Open.g (k : Nat) : List (Nat × LE) := []
theorem spec_Open.link (k : Nat) (a0 : List S4) : evFun (mkCx Try.prog (spec_Open.c k) (spec_Open.g k) : Cx Bool) Try.f78 ((spec_Open.e k).args.enc (a0, ())) (spec_Open.e k).ret.dec = spec_Open.f k a0 := by kernel_rfl
theorem spec_Open.ok1 (k : Nat) (hC : AllFun Try.prog (spec_Open.c k)) : Fun Try.prog 78 (spec_Open.e k).G := fun_ok mixed (body := spec_Open.bd) Try.func78 (by kernel_rfl) (by kernel_rfl) (by kernel_rfl) hC (loops_all 0 (by kernel_rfl) fun i hi => absurd hi (Nat.not_lt_zero i)) (spec_Open.e k) (fun a => Nat.le_of_ble_eq_true (by kernel_rfl)) fun a b h => (spec_Open.link k a.1).trans h
theorem spec_Open.ok (k : Nat) : Fun Try.prog 78 (spec_Open.e k).G := spec_Open.ok1 k ⟨spec_l6Right.ok k, spec_l6Open.ok k, trivial⟩

noncomputable def spec_l5Spot.f (k : Nat) (a0 : Int) (a1 : Int) (a2 : Int) (a3 : Int) : Option S4 :=
  (spec_l3Gcd.f k  a0 a1).bind fun t1 => (spec_l3Gcd.f k  a2 a3).bind fun t2 => (spec_l3Gcd.f k  t1 t2).bind fun t3 => if (decide (a3 < 0)) = true then (if (W (0 - t3)) = 0 then none else (if (W (0 - t3)) = 0 then none else (if (W (0 - t3)) = 0 then none else (if (W (0 - t3)) = 0 then none else (some (⟨(W (a0.tdiv (W (0 - t3)))), (W (a1.tdiv (W (0 - t3)))), (W (a2.tdiv (W (0 - t3)))), (W (a3.tdiv (W (0 - t3))))⟩ : S4)))))) else (if t3 = 0 then none else (if t3 = 0 then none else (if t3 = 0 then none else (if t3 = 0 then none else (some (⟨(W (a0.tdiv t3)), (W (a1.tdiv t3)), (W (a2.tdiv t3)), (W (a3.tdiv t3))⟩ : S4))))))
noncomputable def spec_l5Spot.e (k : Nat) : FE := { α := Int × Int × Int × Int × Unit, β := S4, args := (lCons (aI .i64) (lCons (aI .i64) (lCons (aI .i64) (lCons (aI .i64) lNil)))), ret := (rOne aS4), f := fun p => spec_l5Spot.f k p.1 p.2.1 p.2.2.1 p.2.2.2.1 }
noncomputable def spec_l5Spot.c (k : Nat) : List (Nat × CE) := [(139, .fn (spec_l3Gcd.e k))]
noncomputable def spec_l5Spot.bd : Code := match Try.f195.body with | some c => c | none => .skip
noncomputable def spec_l5Spot.g (k : Nat) : List (Nat × LE) := []
theorem spec_l5Spot.link (k : Nat) (a0 : Int) (a1 : Int) (a2 : Int) (a3 : Int) : evFun (mkCx Try.prog (spec_l5Spot.c k) (spec_l5Spot.g k) : Cx S4) Try.f195 ((spec_l5Spot.e k).args.enc (a0, a1, a2, a3, ())) (spec_l5Spot.e k).ret.dec = spec_l5Spot.f k a0 a1 a2 a3 := by kernel_rfl
theorem spec_l5Spot.ok1 (k : Nat) (hC : AllFun Try.prog (spec_l5Spot.c k)) : Fun Try.prog 195 (spec_l5Spot.e k).G := fun_ok mixed (body := spec_l5Spot.bd) Try.func195 (by kernel_rfl) (by kernel_rfl) (by kernel_rfl) hC (loops_all 0 (by kernel_rfl) fun i hi => absurd hi (Nat.not_lt_zero i)) (spec_l5Spot.e k) (fun a => Nat.le_of_ble_eq_true (by kernel_rfl)) fun a b h => (spec_l5Spot.link k a.1 a.2.1 a.2.2.1 a.2.2.2.1).trans h
theorem spec_l5Spot.ok (k : Nat) : Fun Try.prog 195 (spec_l5Spot.e k).G := spec_l5Spot.ok1 k ⟨spec_l3Gcd.ok k, trivial⟩

noncomputable def spec_l5Meet.f (k : Nat) (a0 : S4) (a1 : S4) (a2 : S4) : Option (S4 × Bool × Unit) :=
  (spec_l4Det3.f k  a0 a1 a2).bind fun t1 => if (t1 == 0) = true then (some ((⟨0, 0, 0, 0⟩ : S4), false, ())) else ((spec_l4Det3.f k  (⟨(W (0 - a0.d)), a0.b, a0.c, 0⟩ : S4) (⟨(W (0 - a1.d)), a1.b, a1.c, 0⟩ : S4) (⟨(W (0 - a2.d)), a2.b, a2.c, 0⟩ : S4)).bind fun t2 => (spec_l4Det3.f k  (⟨a0.a, (W (0 - a0.d)), a0.c, 0⟩ : S4) (⟨a1.a, (W (0 - a1.d)), a1.c, 0⟩ : S4) (⟨a2.a, (W (0 - a2.d)), a2.c, 0⟩ : S4)).bind fun t3 => (spec_l4Det3.f k  (⟨a0.a, a0.b, (W (0 - a0.d)), 0⟩ : S4) (⟨a1.a, a1.b, (W (0 - a1.d)), 0⟩ : S4) (⟨a2.a, a2.b, (W (0 - a2.d)), 0⟩ : S4)).bind fun t4 => (spec_l5Spot.f k  t2 t3 t4 t1).bind fun t5 => some (t5, true, ()))
noncomputable def spec_l5Meet.e (k : Nat) : FE := { α := S4 × S4 × S4 × Unit, β := (S4 × Bool × Unit), args := (lCons aS4 (lCons aS4 (lCons aS4 lNil))), ret := (rMany (lCons aS4 (lCons aB lNil))), f := fun p => spec_l5Meet.f k p.1 p.2.1 p.2.2.1 }
noncomputable def spec_l5Meet.c (k : Nat) : List (Nat × CE) := [(137, .fn (spec_l4Det3.e k)), (195, .fn (spec_l5Spot.e k))]
noncomputable def spec_l5Meet.bd : Code := match Try.f142.body with | some c => c | none => .skip
noncomputable def spec_l5Meet.g (k : Nat) : List (Nat × LE) := []
theorem spec_l5Meet.link (k : Nat) (a0 : S4) (a1 : S4) (a2 : S4) : evFun (mkCx Try.prog (spec_l5Meet.c k) (spec_l5Meet.g k) : Cx (S4 × Bool × Unit)) Try.f142 ((spec_l5Meet.e k).args.enc (a0, a1, a2, ())) (spec_l5Meet.e k).ret.dec = spec_l5Meet.f k a0 a1 a2 := by kernel_rfl
theorem spec_l5Meet.ok1 (k : Nat) (hC : AllFun Try.prog (spec_l5Meet.c k)) : Fun Try.prog 142 (spec_l5Meet.e k).G := fun_ok mixed (body := spec_l5Meet.bd) Try.func142 (by kernel_rfl) (by kernel_rfl) (by kernel_rfl) hC (loops_all 0 (by kernel_rfl) fun i hi => absurd hi (Nat.not_lt_zero i)) (spec_l5Meet.e k) (fun a => Nat.le_of_ble_eq_true (by kernel_rfl)) fun a b h => (spec_l5Meet.link k a.1 a.2.1 a.2.2.1).trans h
theorem spec_l5Meet.ok (k : Nat) : Fun Try.prog 142 (spec_l5Meet.e k).G := spec_l5Meet.ok1 k ⟨spec_l4Det3.ok k, spec_l5Spot.ok k, trivial⟩

noncomputable def spec_l5Side.f (k : Nat) (a0 : S4) (a1 : S4) : Option Int :=
  (spec_l3Sign.f k  (W ((W ((W ((W (a0.a * a1.a)) + (W (a0.b * a1.b)))) + (W (a0.c * a1.c)))) + (W (a0.d * a1.d))))).bind fun t1 => some t1
noncomputable def spec_l5Side.e (k : Nat) : FE := { α := S4 × S4 × Unit, β := Int, args := (lCons aS4 (lCons aS4 lNil)), ret := (rOne (aI .i64)), f := fun p => spec_l5Side.f k p.1 p.2.1 }
noncomputable def spec_l5Side.c (k : Nat) : List (Nat × CE) := [(204, .fn (spec_l3Sign.e k))]
noncomputable def spec_l5Side.bd : Code := match Try.f158.body with | some c => c | none => .skip
noncomputable def spec_l5Side.g (k : Nat) : List (Nat × LE) := []
theorem spec_l5Side.link (k : Nat) (a0 : S4) (a1 : S4) : evFun (mkCx Try.prog (spec_l5Side.c k) (spec_l5Side.g k) : Cx Int) Try.f158 ((spec_l5Side.e k).args.enc (a0, a1, ())) (spec_l5Side.e k).ret.dec = spec_l5Side.f k a0 a1 := by kernel_rfl
theorem spec_l5Side.ok1 (k : Nat) (hC : AllFun Try.prog (spec_l5Side.c k)) : Fun Try.prog 158 (spec_l5Side.e k).G := fun_ok mixed (body := spec_l5Side.bd) Try.func158 (by kernel_rfl) (by kernel_rfl) (by kernel_rfl) hC (loops_all 0 (by kernel_rfl) fun i hi => absurd hi (Nat.not_lt_zero i)) (spec_l5Side.e k) (fun a => Nat.le_of_ble_eq_true (by kernel_rfl)) fun a b h => (spec_l5Side.link k a.1 a.2.1).trans h
theorem spec_l5Side.ok (k : Nat) : Fun Try.prog 158 (spec_l5Side.e k).G := spec_l5Side.ok1 k ⟨spec_l3Sign.ok k, trivial⟩

noncomputable def spec_l7In.H3 : Hd := ⟨[], [0, 3, 5, 6], [3], []⟩
@[reducible] def spec_l7In.A3 : Type := (((List S4) × Unit × Int × Int × Unit) × (S4 × Unit))
noncomputable def spec_l7In.Z3 : SC spec_l7In.A3 := sC spec_l7In.H3 (eCons 0 (tP (aSl .s4)) (eCons 3 (tRef 3 0) (eCons 5 (tP (aI .i64)) (eCons 6 (tP (aI .i64)) eNil)))) (bCons 3 (xVr cS4) bNil)
@[reducible] def spec_l7In.B3 : Type := ((Int × Unit) × (Unit))
noncomputable def spec_l7In.X3 : XC spec_l7In.B3 := xExit 0 (sC ⟨[], [5], [], []⟩ (eCons 5 (tP (aI .i64)) eNil) bNil)
noncomputable def spec_l7In.s3 (k : Nat)  (J : (List S4) → Int → Int → S4 → Option spec_l7In.B3) (x0 : List S4) (x5 : Int) (x6 : Int) (b3 : S4) : Option spec_l7In.B3 :=
  if (decide (x6 < (x0.length : Int))) = true then (if 0 ≤ x6 then (if x6 < (x0.length : Int) then ((spec_l5Side.f k  (rd x0 x6) b3).bind fun t1 => if (decide (t1 < x5)) = true then (J x0 t1 (W (x6 + 1)) b3) else (J x0 x5 (W (x6 + 1)) b3)) else none) else none) else (some ((x5, ()), (())))
noncomputable def spec_l7In.l3 (k : Nat)  : Nat → (List S4) → Int → Int → S4 → Option spec_l7In.B3
  | 0, _, _, _, _ => none
  | n + 1, x0, x5, x6, b3 => spec_l7In.s3 k (spec_l7In.l3 k n) x0 x5 x6 b3
noncomputable def spec_l7In.f (k : Nat) (a0 : List S4) (a1 : S4) : Option Int :=
  (spec_l7In.l3 k k a0 1 0 a1).bind fun x2 => some x2.1.1
noncomputable def spec_l7In.e (k : Nat) : FE := { α := (List S4) × S4 × Unit, β := Int, args := (lCons (aSl .s4) (lCons aS4 lNil)), ret := (rOne (aI .i64)), f := fun p => spec_l7In.f k p.1 p.2.1 }
noncomputable def spec_l7In.c (k : Nat) : List (Nat × CE) := [(158, .fn (spec_l5Side.e k))]
noncomputable def spec_l7In.bd : Code := match Try.f178.body with | some c => c | none => .skip
noncomputable def spec_l7In.e3 (k : Nat) : LE := { H := spec_l7In.H3, α := spec_l7In.A3, β := spec_l7In.B3, st := spec_l7In.Z3, xt := spec_l7In.X3, f := fun p => spec_l7In.l3 k k p.1.1 p.1.2.2.1 p.1.2.2.2.1 p.2.1 }
noncomputable def spec_l7In.g (k : Nat) : List (Nat × LE) := [(3, spec_l7In.e3 k)]
theorem spec_l7In.t3 (k : Nat) (I : S2 → Option spec_l7In.B3) (x0 : List S4) (x5 : Int) (x6 : Int) (b3 : S4) : stepOf (mkCx Try.prog (spec_l7In.c k) (spec_l7In.g k) : Cx spec_l7In.B3) (loopAt spec_l7In.bd 0) spec_l7In.H3 spec_l7In.X3.dec I (spec_l7In.Z3.enc ((x0, (), x5, x6, ()), (b3, ()))) = spec_l7In.s3 k (fun x0 x5 x6 b3 => I (spec_l7In.Z3.enc ((x0, (), x5, x6, ()), (b3, ())))) x0 x5 x6 b3 := by kernel_rfl
theorem spec_l7In.i3 (k : Nat) : ∀ (n : Nat) (x0 : List S4) (x5 : Int) (x6 : Int) (b3 : S4), iter (evCode (mkCx Try.prog (spec_l7In.c k) (spec_l7In.g k) : Cx spec_l7In.B3) (loopAt spec_l7In.bd 0)) spec_l7In.H3 spec_l7In.X3.dec n (spec_l7In.Z3.enc ((x0, (), x5, x6, ()), (b3, ()))) = spec_l7In.l3 k n x0 x5 x6 b3
  | 0, _, _, _, _ => rfl
  | n + 1, x0, x5, x6, b3 => ((iter_step _ _ _ _ n _).trans (spec_l7In.t3 k _ x0 x5 x6 b3)).trans (congrArg (fun J => spec_l7In.s3 k J x0 x5 x6 b3) (funext fun x0 => funext fun x5 => funext fun x6 => funext fun b3 => spec_l7In.i3 k n x0 x5 x6 b3))
theorem spec_l7In.to3 (k : Nat) (hC : AllFun Try.prog (spec_l7In.c k)) : LoopTo Try.prog 25 (spec_l7In.e3 k) (loopAt spec_l7In.bd 0) := loop_to mixed hC (by kernel_rfl) (loops_all 0 (by kernel_rfl) fun i hi => absurd hi (Nat.not_lt_zero i)) fun a b h => ⟨k, (spec_l7In.i3 k k a.1.1 a.1.2.2.1 a.1.2.2.2.1 a.2.1).trans h⟩
theorem spec_l7In.link (k : Nat) (a0 : List S4) (a1 : S4) : evFun (mkCx Try.prog (spec_l7In.c k) (spec_l7In.g k) : Cx Int) Try.f178 ((spec_l7In.e k).args.enc (a0, a1, ())) (spec_l7In.e k).ret.dec = spec_l7In.f k a0 a1 := by kernel_rfl
theorem spec_l7In.ok1 (k : Nat) (hC : AllFun Try.prog (spec_l7In.c k)) : Fun Try.prog 178 (spec_l7In.e k).G := fun_ok mixed (body := spec_l7In.bd) Try.func178 (by kernel_rfl) (by kernel_rfl) (by kernel_rfl) hC (loops_all 1 (by kernel_rfl) fun i hi => by obtain rfl : i = 0 := Nat.lt_one_iff.1 hi; exact ⟨spec_l7In.e3 k, by kernel_rfl, spec_l7In.to3 k hC⟩) (spec_l7In.e k) (fun a => Nat.le_of_ble_eq_true (by kernel_rfl)) fun a b h => (spec_l7In.link k a.1 a.2.1).trans h
theorem spec_l7In.ok (k : Nat) : Fun Try.prog 178 (spec_l7In.e k).G := spec_l7In.ok1 k ⟨spec_l5Side.ok k, trivial⟩

noncomputable def spec_l3CmpInt.f (k : Nat) (a0 : Int) (a1 : Int) : Option Int :=
  if (decide (a0 < a1)) = true then (some (-1)) else (if (decide (a0 > a1)) = true then (some 1) else (some 0))
noncomputable def spec_l3CmpInt.e (k : Nat) : FE := { α := Int × Int × Unit, β := Int, args := (lCons (aI .i64) (lCons (aI .i64) lNil)), ret := (rOne (aI .i64)), f := fun p => spec_l3CmpInt.f k p.1 p.2.1 }
noncomputable def spec_l3CmpInt.c (k : Nat) : List (Nat × CE) := []
noncomputable def spec_l3CmpInt.bd : Code := match Try.f211.body with | some c => c | none => .skip
noncomputable def spec_l3CmpInt.g (k : Nat) : List (Nat × LE) := []
theorem spec_l3CmpInt.link (k : Nat) (a0 : Int) (a1 : Int) : evFun (mkCx Try.prog (spec_l3CmpInt.c k) (spec_l3CmpInt.g k) : Cx Int) Try.f211 ((spec_l3CmpInt.e k).args.enc (a0, a1, ())) (spec_l3CmpInt.e k).ret.dec = spec_l3CmpInt.f k a0 a1 := by kernel_rfl
theorem spec_l3CmpInt.ok1 (k : Nat) (hC : AllFun Try.prog (spec_l3CmpInt.c k)) : Fun Try.prog 211 (spec_l3CmpInt.e k).G := fun_ok mixed (body := spec_l3CmpInt.bd) Try.func211 (by kernel_rfl) (by kernel_rfl) (by kernel_rfl) hC (loops_all 0 (by kernel_rfl) fun i hi => absurd hi (Nat.not_lt_zero i)) (spec_l3CmpInt.e k) (fun a => Nat.le_of_ble_eq_true (by kernel_rfl)) fun a b h => (spec_l3CmpInt.link k a.1 a.2.1).trans h
theorem spec_l3CmpInt.ok (k : Nat) : Fun Try.prog 211 (spec_l3CmpInt.e k).G := spec_l3CmpInt.ok1 k trivial

noncomputable def spec_SpotOk.f (k : Nat) (a0 : S4) : Option Bool :=
  (spec_l1In.f k  a0.d 1 1000000000).bind fun t1 => if t1 = true then ((spec_l1In.f k  a0.a (-1000000000) 1000000000).bind fun t2 => if t2 = true then ((spec_l1In.f k  a0.b (-1000000000) 1000000000).bind fun t3 => if t3 = true then ((spec_l1In.f k  a0.c (-1000000000) 1000000000).bind fun t4 => if t4 = true then ((spec_l3Gcd.f k  a0.a a0.b).bind fun t5 => (spec_l3Gcd.f k  a0.c a0.d).bind fun t6 => (spec_l3Gcd.f k  t5 t6).bind fun t7 => some (t7 == 1)) else (some false)) else (some false)) else (some false)) else (some false)
noncomputable def spec_SpotOk.e (k : Nat) : FE := { α := S4 × Unit, β := Bool, args := (lCons aS4 lNil), ret := (rOne aB), f := fun p => spec_SpotOk.f k p.1 }
noncomputable def spec_SpotOk.c (k : Nat) : List (Nat × CE) := [(156, .fn (spec_l1In.e k)), (139, .fn (spec_l3Gcd.e k))]
noncomputable def spec_SpotOk.bd : Code := match Try.f157.body with | some c => c | none => .skip
noncomputable def spec_SpotOk.g (k : Nat) : List (Nat × LE) := []
theorem spec_SpotOk.link (k : Nat) (a0 : S4) : evFun (mkCx Try.prog (spec_SpotOk.c k) (spec_SpotOk.g k) : Cx Bool) Try.f157 ((spec_SpotOk.e k).args.enc (a0, ())) (spec_SpotOk.e k).ret.dec = spec_SpotOk.f k a0 := by kernel_rfl
theorem spec_SpotOk.ok1 (k : Nat) (hC : AllFun Try.prog (spec_SpotOk.c k)) : Fun Try.prog 157 (spec_SpotOk.e k).G := fun_ok mixed (body := spec_SpotOk.bd) Try.func157 (by kernel_rfl) (by kernel_rfl) (by kernel_rfl) hC (loops_all 0 (by kernel_rfl) fun i hi => absurd hi (Nat.not_lt_zero i)) (spec_SpotOk.e k) (fun a => Nat.le_of_ble_eq_true (by kernel_rfl)) fun a b h => (spec_SpotOk.link k a.1).trans h
theorem spec_SpotOk.ok (k : Nat) : Fun Try.prog 157 (spec_SpotOk.e k).G := spec_SpotOk.ok1 k ⟨spec_l1In.ok k, spec_l3Gcd.ok k, trivial⟩

noncomputable def spec_l5Right.f (k : Nat) (a0 : S4) : Option S4 :=
  (spec_SpotOk.f k  a0).bind fun t1 => if (!t1) = true then (some (⟨0, 0, 0, 1⟩ : S4)) else (some a0)
noncomputable def spec_l5Right.e (k : Nat) : FE := { α := S4 × Unit, β := S4, args := (lCons aS4 lNil), ret := (rOne aS4), f := fun p => spec_l5Right.f k p.1 }
noncomputable def spec_l5Right.c (k : Nat) : List (Nat × CE) := [(157, .fn (spec_SpotOk.e k))]
noncomputable def spec_l5Right.bd : Code := match Try.f239.body with | some c => c | none => .skip
noncomputable def spec_l5Right.g (k : Nat) : List (Nat × LE) := []
theorem spec_l5Right.link (k : Nat) (a0 : S4) : evFun (mkCx Try.prog (spec_l5Right.c k) (spec_l5Right.g k) : Cx S4) Try.f239 ((spec_l5Right.e k).args.enc (a0, ())) (spec_l5Right.e k).ret.dec = spec_l5Right.f k a0 := by kernel_rfl
theorem spec_l5Right.ok1 (k : Nat) (hC : AllFun Try.prog (spec_l5Right.c k)) : Fun Try.prog 239 (spec_l5Right.e k).G := fun_ok mixed (body := spec_l5Right.bd) Try.func239 (by kernel_rfl) (by kernel_rfl) (by kernel_rfl) hC (loops_all 0 (by kernel_rfl) fun i hi => absurd hi (Nat.not_lt_zero i)) (spec_l5Right.e k) (fun a => Nat.le_of_ble_eq_true (by kernel_rfl)) fun a b h => (spec_l5Right.link k a.1).trans h
theorem spec_l5Right.ok (k : Nat) : Fun Try.prog 239 (spec_l5Right.e k).G := spec_l5Right.ok1 k ⟨spec_SpotOk.ok k, trivial⟩

noncomputable def spec_CmpSpot.H6 : Hd := ⟨[], [5, 6, 7], [], []⟩
@[reducible] def spec_CmpSpot.A6 : Type := ((Unit × Unit × Int × Unit) × ((List Int) × (List Int) × Unit))
noncomputable def spec_CmpSpot.Z6 : SC spec_CmpSpot.A6 := sC spec_CmpSpot.H6 (eCons 5 (tOsl 1000005) (eCons 6 (tOsl 1000006) (eCons 7 (tP (aI .i64)) eNil))) (bCons 1000005 (xRow 3 (.i .i64)) (bCons 1000006 (xRow 3 (.i .i64)) bNil))
@[reducible] def spec_CmpSpot.B6 : Type := ((Int × Unit) × (Unit)) ⊕ ((Unit) × (Unit))
noncomputable def spec_CmpSpot.X6 : XC spec_CmpSpot.B6 := xOr (xRet (sC ⟨[], [4], [], []⟩ (eCons 4 (tP (aI .i64)) eNil) bNil)) (xExit 0 (sC ⟨[], [], [], []⟩ eNil bNil))
noncomputable def spec_CmpSpot.s6 (k : Nat)  (J : Int → (List Int) → (List Int) → Option spec_CmpSpot.B6) (x7 : Int) (b1000005 : List Int) (b1000006 : List Int) : Option spec_CmpSpot.B6 :=
  if (decide (x7 < 3)) = true then (if 0 ≤ x7 then (if x7 < (b1000005.length : Int) then (if x7.toNat < b1000005.length then (if 0 ≤ x7 then (if x7 < (b1000006.length : Int) then (if x7.toNat < b1000006.length then (if ((b1000005.getD x7.toNat default) != (b1000006.getD x7.toNat default)) = true then (if 0 ≤ x7 then (if x7 < (b1000005.length : Int) then (if x7.toNat < b1000005.length then (if 0 ≤ x7 then (if x7 < (b1000006.length : Int) then (if x7.toNat < b1000006.length then ((spec_l3CmpInt.f k  (b1000005.getD x7.toNat default) (b1000006.getD x7.toNat default)).bind fun t3 => some (.inl ((t3, ()), (())))) else none) else none) else none) else none) else none) else none) else (J (W (x7 + 1)) b1000005 b1000006)) else none) else none) else none) else none) else none) else none) else (some (.inr ((()), (()))))
noncomputable def spec_CmpSpot.l6 (k : Nat)  : Nat → Int → (List Int) → (List Int) → Option spec_CmpSpot.B6
  | 0, _, _, _ => none
  | n + 1, x7, b1000005, b1000006 => spec_CmpSpot.s6 k (spec_CmpSpot.l6 k n) x7 b1000005 b1000006
noncomputable def spec_CmpSpot.f (k : Nat) (a0 : S4) (a1 : S4) : Option Int :=
  (spec_l5Right.f k  a0).bind fun t1 => (spec_l5Right.f k  a1).bind fun t2 => (spec_CmpSpot.l6 k k 0 ([(W (t1.a * t2.d)), (W (t1.b * t2.d)), (W (t1.c * t2.d))] : List Int) ([(W (t2.a * t1.d)), (W (t2.b * t1.d)), (W (t2.c * t1.d))] : List Int)).bind fun | .inl r4 => (some r4.1.1) | .inr x5 => (some 0)
noncomputable def spec_CmpSpot.e (k : Nat) : FE := { α := S4 × S4 × Unit, β := Int, args := (lCons aS4 (lCons aS4 lNil)), ret := (rOne (aI .i64)), f := fun p => spec_CmpSpot.f k p.1 p.2.1 }
noncomputable def spec_CmpSpot.c (k : Nat) : List (Nat × CE) := [(239, .fn (spec_l5Right.e k)), (211, .fn (spec_l3CmpInt.e k))]
noncomputable def spec_CmpSpot.bd : Code := match Try.f216.body with | some c => c | none => .skip
noncomputable def spec_CmpSpot.e6 (k : Nat) : LE := { H := spec_CmpSpot.H6, α := spec_CmpSpot.A6, β := spec_CmpSpot.B6, st := spec_CmpSpot.Z6, xt := spec_CmpSpot.X6, f := fun p => spec_CmpSpot.l6 k k p.1.2.2.1 p.2.1 p.2.2.1 }
noncomputable def spec_CmpSpot.g (k : Nat) : List (Nat × LE) := [(6, spec_CmpSpot.e6 k)]
theorem spec_CmpSpot.t6 (k : Nat) (I : S2 → Option spec_CmpSpot.B6) (x7 : Int) (b1000005 : List Int) (b1000006 : List Int) : stepOf (mkCx Try.prog (spec_CmpSpot.c k) (spec_CmpSpot.g k) : Cx spec_CmpSpot.B6) (loopAt spec_CmpSpot.bd 0) spec_CmpSpot.H6 spec_CmpSpot.X6.dec I (spec_CmpSpot.Z6.enc (((), (), x7, ()), (b1000005, b1000006, ()))) = spec_CmpSpot.s6 k (fun x7 b1000005 b1000006 => I (spec_CmpSpot.Z6.enc (((), (), x7, ()), (b1000005, b1000006, ())))) x7 b1000005 b1000006 := by kernel_rfl
theorem spec_CmpSpot.i6 (k : Nat) : ∀ (n : Nat) (x7 : Int) (b1000005 : List Int) (b1000006 : List Int), iter (evCode (mkCx Try.prog (spec_CmpSpot.c k) (spec_CmpSpot.g k) : Cx spec_CmpSpot.B6) (loopAt spec_CmpSpot.bd 0)) spec_CmpSpot.H6 spec_CmpSpot.X6.dec n (spec_CmpSpot.Z6.enc (((), (), x7, ()), (b1000005, b1000006, ()))) = spec_CmpSpot.l6 k n x7 b1000005 b1000006
  | 0, _, _, _ => rfl
  | n + 1, x7, b1000005, b1000006 => ((iter_step _ _ _ _ n _).trans (spec_CmpSpot.t6 k _ x7 b1000005 b1000006)).trans (congrArg (fun J => spec_CmpSpot.s6 k J x7 b1000005 b1000006) (funext fun x7 => funext fun b1000005 => funext fun b1000006 => spec_CmpSpot.i6 k n x7 b1000005 b1000006))
theorem spec_CmpSpot.to6 (k : Nat) (hC : AllFun Try.prog (spec_CmpSpot.c k)) : LoopTo Try.prog 66 (spec_CmpSpot.e6 k) (loopAt spec_CmpSpot.bd 0) := loop_to mixed hC (by kernel_rfl) (loops_all 0 (by kernel_rfl) fun i hi => absurd hi (Nat.not_lt_zero i)) fun a b h => ⟨k, (spec_CmpSpot.i6 k k a.1.2.2.1 a.2.1 a.2.2.1).trans h⟩
theorem spec_CmpSpot.link (k : Nat) (a0 : S4) (a1 : S4) : evFun (mkCx Try.prog (spec_CmpSpot.c k) (spec_CmpSpot.g k) : Cx Int) Try.f216 ((spec_CmpSpot.e k).args.enc (a0, a1, ())) (spec_CmpSpot.e k).ret.dec = spec_CmpSpot.f k a0 a1 := by kernel_rfl
theorem spec_CmpSpot.ok1 (k : Nat) (hC : AllFun Try.prog (spec_CmpSpot.c k)) : Fun Try.prog 216 (spec_CmpSpot.e k).G := fun_ok mixed (body := spec_CmpSpot.bd) Try.func216 (by kernel_rfl) (by kernel_rfl) (by kernel_rfl) hC (loops_all 1 (by kernel_rfl) fun i hi => by obtain rfl : i = 0 := Nat.lt_one_iff.1 hi; exact ⟨spec_CmpSpot.e6 k, by kernel_rfl, spec_CmpSpot.to6 k hC⟩) (spec_CmpSpot.e k) (fun a => Nat.le_of_ble_eq_true (by kernel_rfl)) fun a b h => (spec_CmpSpot.link k a.1 a.2.1).trans h
theorem spec_CmpSpot.ok (k : Nat) : Fun Try.prog 216 (spec_CmpSpot.e k).G := spec_CmpSpot.ok1 k ⟨spec_l5Right.ok k, spec_l3CmpInt.ok k, trivial⟩

noncomputable def spec_l7Put.H2 : Hd := ⟨[], [0, 3, 5], [3], []⟩
@[reducible] def spec_l7Put.A2 : Type := (((List S4) × Unit × Int × Unit) × (S4 × Unit))
noncomputable def spec_l7Put.Z2 : SC spec_l7Put.A2 := sC spec_l7Put.H2 (eCons 0 (tP (aSl .s4)) (eCons 3 (tRef 3 0) (eCons 5 (tP (aI .i64)) eNil))) (bCons 3 (xVr cS4) bNil)
@[reducible] def spec_l7Put.B2 : Type := (((List S4) × Unit) × (Unit)) ⊕ (((List S4) × Unit × Int × Unit) × (S4 × Unit))
noncomputable def spec_l7Put.X2 : XC spec_l7Put.B2 := xOr (xRet (sC ⟨[], [4], [], []⟩ (eCons 4 (tP (aSl .s4)) eNil) bNil)) (xExit 0 (sC ⟨[], [0, 3, 5], [3], []⟩ (eCons 0 (tP (aSl .s4)) (eCons 3 (tRef 3 0) (eCons 5 (tP (aI .i64)) eNil))) (bCons 3 (xVr cS4) bNil)))
noncomputable def spec_l7Put.s2 (k : Nat)  (J : (List S4) → Int → S4 → Option spec_l7Put.B2) (x0 : List S4) (x5 : Int) (b3 : S4) : Option spec_l7Put.B2 :=
  if (decide (x5 > 0)) = true then (if 0 ≤ (W (x5 - 1)) then (if (W (x5 - 1)) < (x0.length : Int) then ((spec_CmpSpot.f k  (rd x0 (W (x5 - 1))) b3).bind fun t1 => if (decide (t1 ≥ 0)) = true then (if 0 ≤ (W (x5 - 1)) then (if (W (x5 - 1)) < (x0.length : Int) then (if (((rd x0 (W (x5 - 1))).a == b3.a) && (((rd x0 (W (x5 - 1))).b == b3.b) && (((rd x0 (W (x5 - 1))).c == b3.c) && ((rd x0 (W (x5 - 1))).d == b3.d)))) = true then (some (.inl ((x0, ()), (())))) else (J x0 (W (x5 - 1)) b3)) else none) else none) else (some (.inr ((x0, (), x5, ()), (b3, ()))))) else none) else none) else (some (.inr ((x0, (), x5, ()), (b3, ()))))
noncomputable def spec_l7Put.l2 (k : Nat)  : Nat → (List S4) → Int → S4 → Option spec_l7Put.B2
  | 0, _, _, _ => none
  | n + 1, x0, x5, b3 => spec_l7Put.s2 k (spec_l7Put.l2 k n) x0 x5 b3
noncomputable def spec_l7Put.f (k : Nat) (a0 : List S4) (a1 : S4) : Option (List S4) :=
  (spec_l7Put.l2 k k a0 (a0.length : Int) a1).bind fun | .inl r2 => (some r2.1.1) | .inr x3 => (if 0 ≤ x3.1.2.2.1 then (if x3.1.2.2.1 ≤ (x3.1.1.length : Int) then (if lt47 (([] : List S4).length + (x3.1.1.take x3.1.2.2.1.toNat).length) = true then (if lt47 ((([] : List S4) ++ (x3.1.1.take x3.1.2.2.1.toNat)).length + ([x3.2.1] : List S4).length) = true then (if 0 ≤ x3.1.2.2.1 then (if x3.1.2.2.1 ≤ (x3.1.1.length : Int) then (if lt47 (((([] : List S4) ++ (x3.1.1.take x3.1.2.2.1.toNat)) ++ ([x3.2.1] : List S4)).length + (x3.1.1.drop x3.1.2.2.1.toNat).length) = true then (some (((([] : List S4) ++ (x3.1.1.take x3.1.2.2.1.toNat)) ++ ([x3.2.1] : List S4)) ++ (x3.1.1.drop x3.1.2.2.1.toNat))) else none) else none) else none) else none) else none) else none) else none)
noncomputable def spec_l7Put.e (k : Nat) : FE := { α := (List S4) × S4 × Unit, β := List S4, args := (lCons (aSl .s4) (lCons aS4 lNil)), ret := (rSh .s4), f := fun p => spec_l7Put.f k p.1 p.2.1 }
noncomputable def spec_l7Put.c (k : Nat) : List (Nat × CE) := [(216, .fn (spec_CmpSpot.e k))]
noncomputable def spec_l7Put.bd : Code := match Try.f179.body with | some c => c | none => .skip
noncomputable def spec_l7Put.e2 (k : Nat) : LE := { H := spec_l7Put.H2, α := spec_l7Put.A2, β := spec_l7Put.B2, st := spec_l7Put.Z2, xt := spec_l7Put.X2, f := fun p => spec_l7Put.l2 k k p.1.1 p.1.2.2.1 p.2.1 }
noncomputable def spec_l7Put.g (k : Nat) : List (Nat × LE) := [(2, spec_l7Put.e2 k)]
theorem spec_l7Put.t2 (k : Nat) (I : S2 → Option spec_l7Put.B2) (x0 : List S4) (x5 : Int) (b3 : S4) : stepOf (mkCx Try.prog (spec_l7Put.c k) (spec_l7Put.g k) : Cx spec_l7Put.B2) (loopAt spec_l7Put.bd 0) spec_l7Put.H2 spec_l7Put.X2.dec I (spec_l7Put.Z2.enc ((x0, (), x5, ()), (b3, ()))) = spec_l7Put.s2 k (fun x0 x5 b3 => I (spec_l7Put.Z2.enc ((x0, (), x5, ()), (b3, ())))) x0 x5 b3 := by kernel_rfl
theorem spec_l7Put.i2 (k : Nat) : ∀ (n : Nat) (x0 : List S4) (x5 : Int) (b3 : S4), iter (evCode (mkCx Try.prog (spec_l7Put.c k) (spec_l7Put.g k) : Cx spec_l7Put.B2) (loopAt spec_l7Put.bd 0)) spec_l7Put.H2 spec_l7Put.X2.dec n (spec_l7Put.Z2.enc ((x0, (), x5, ()), (b3, ()))) = spec_l7Put.l2 k n x0 x5 b3
  | 0, _, _, _ => rfl
  | n + 1, x0, x5, b3 => ((iter_step _ _ _ _ n _).trans (spec_l7Put.t2 k _ x0 x5 b3)).trans (congrArg (fun J => spec_l7Put.s2 k J x0 x5 b3) (funext fun x0 => funext fun x5 => funext fun b3 => spec_l7Put.i2 k n x0 x5 b3))
theorem spec_l7Put.to2 (k : Nat) (hC : AllFun Try.prog (spec_l7Put.c k)) : LoopTo Try.prog 44 (spec_l7Put.e2 k) (loopAt spec_l7Put.bd 0) := loop_to mixed hC (by kernel_rfl) (loops_all 0 (by kernel_rfl) fun i hi => absurd hi (Nat.not_lt_zero i)) fun a b h => ⟨k, (spec_l7Put.i2 k k a.1.1 a.1.2.2.1 a.2.1).trans h⟩
theorem spec_l7Put.link (k : Nat) (a0 : List S4) (a1 : S4) : evFun (mkCx Try.prog (spec_l7Put.c k) (spec_l7Put.g k) : Cx (List S4)) Try.f179 ((spec_l7Put.e k).args.enc (a0, a1, ())) (spec_l7Put.e k).ret.dec = spec_l7Put.f k a0 a1 := by kernel_rfl
theorem spec_l7Put.ok1 (k : Nat) (hC : AllFun Try.prog (spec_l7Put.c k)) : Fun Try.prog 179 (spec_l7Put.e k).G := fun_ok mixed (body := spec_l7Put.bd) Try.func179 (by kernel_rfl) (by kernel_rfl) (by kernel_rfl) hC (loops_all 1 (by kernel_rfl) fun i hi => by obtain rfl : i = 0 := Nat.lt_one_iff.1 hi; exact ⟨spec_l7Put.e2 k, by kernel_rfl, spec_l7Put.to2 k hC⟩) (spec_l7Put.e k) (fun a => Nat.le_of_ble_eq_true (by kernel_rfl)) fun a b h => (spec_l7Put.link k a.1 a.2.1).trans h
theorem spec_l7Put.ok (k : Nat) : Fun Try.prog 179 (spec_l7Put.e k).G := spec_l7Put.ok1 k ⟨spec_CmpSpot.ok k, trivial⟩

end Go.Proofs.Ytlkcpldohlemcaa.G
