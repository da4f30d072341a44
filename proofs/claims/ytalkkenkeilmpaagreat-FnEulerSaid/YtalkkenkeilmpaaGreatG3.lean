/- Go functions told as plain Lean functions; that the code does what these tell. Printed by a program of the session (evp.py). -/
import Derived.Test.YtalkkenkeilmpaaGreatEv16
import Derived.Test.YtalkkenkeilmpaaGreatG2
namespace Go.Proofs.YtalkkenkeilmpaaGreat.G
open Go Go.RowKit Go.Proofs Go.Proofs.YtalkkenkeilmpaaGreat.Ev
set_option linter.unusedVariables false
set_option maxRecDepth 100000

noncomputable def spec_l6Sum.H5 : Hd := ⟨[], [0, 1, 5, 6, 7, 8], [], [], []⟩
@[reducible] def spec_l6Sum.A5 : Type := (((List Int) × (List Int) × Bool × Bool × Int × Int × Unit) × (Unit))
noncomputable def spec_l6Sum.Z5 : SC spec_l6Sum.A5 := sC spec_l6Sum.H5 (eCons 0 (tP (aSl (.i .i64))) (eCons 1 (tP (aSl (.i .i64))) (eCons 5 (tP aB) (eCons 6 (tP aB) (eCons 7 (tP (aI .i64)) (eCons 8 (tP (aI .i64)) eNil)))))) bNil
@[reducible] def spec_l6Sum.B5 : Type := ((Bool × Bool × Int × Unit) × (Unit))
noncomputable def spec_l6Sum.X5 : XC spec_l6Sum.B5 := xExit 0 (sC ⟨[], [5, 6, 7], [], [], []⟩ (eCons 5 (tP aB) (eCons 6 (tP aB) (eCons 7 (tP (aI .i64)) eNil))) bNil)
noncomputable def spec_l6Sum.s5 (k : Nat)  (J : (List Int) → (List Int) → Bool → Bool → Int → Int → Option spec_l6Sum.B5) (x0 : List Int) (x1 : List Int) (x5 : Bool) (x6 : Bool) (x7 : Int) (x8 : Int) : Option spec_l6Sum.B5 :=
  if (decide (x8 < (x0.length : Int))) = true then (if x5 = true then (if 0 ≤ x8 then (if x8 < (x0.length : Int) then (if x6 = true then (if 0 ≤ x8 then (if x8 < (x0.length : Int) then (if 0 ≤ x8 then (if x8 < (x0.length : Int) then ((spec_l3Abs.f k  (rd x0 x8)).bind fun t1 => if 0 ≤ x8 then (if x8 < (x1.length : Int) then (J x0 x1 (decide ((rd x0 x8) > 0)) (decide ((rd x0 x8) < 0)) (W (x7 + (W (t1 * (rd x1 x8))))) (W (x8 + 1))) else none) else none) else none) else none) else none) else none) else (if 0 ≤ x8 then (if x8 < (x0.length : Int) then ((spec_l3Abs.f k  (rd x0 x8)).bind fun t2 => if 0 ≤ x8 then (if x8 < (x1.length : Int) then (J x0 x1 (decide ((rd x0 x8) > 0)) false (W (x7 + (W (t2 * (rd x1 x8))))) (W (x8 + 1))) else none) else none) else none) else none)) else none) else none) else (if x6 = true then (if 0 ≤ x8 then (if x8 < (x0.length : Int) then (if 0 ≤ x8 then (if x8 < (x0.length : Int) then ((spec_l3Abs.f k  (rd x0 x8)).bind fun t3 => if 0 ≤ x8 then (if x8 < (x1.length : Int) then (J x0 x1 false (decide ((rd x0 x8) < 0)) (W (x7 + (W (t3 * (rd x1 x8))))) (W (x8 + 1))) else none) else none) else none) else none) else none) else none) else (if 0 ≤ x8 then (if x8 < (x0.length : Int) then ((spec_l3Abs.f k  (rd x0 x8)).bind fun t4 => if 0 ≤ x8 then (if x8 < (x1.length : Int) then (J x0 x1 false false (W (x7 + (W (t4 * (rd x1 x8))))) (W (x8 + 1))) else none) else none) else none) else none))) else (some ((x5, x6, x7, ()), (())))
noncomputable def spec_l6Sum.l5 (k : Nat)  : Nat → (List Int) → (List Int) → Bool → Bool → Int → Int → Option spec_l6Sum.B5
  | 0, _, _, _, _, _, _ => none
  | n + 1, x0, x1, x5, x6, x7, x8 => spec_l6Sum.s5 k (spec_l6Sum.l5 k n) x0 x1 x5 x6 x7 x8
noncomputable def spec_l6Sum.f (k : Nat) (a0 : List Int) (a1 : List Int) : Option Bool :=
  (spec_l6Sum.l5 k k a0 a1 true true 0 0).bind fun x5 => if x5.1.1 = true then (some (decide (x5.1.2.2.1 ≤ 0))) else (if x5.1.2.1 = true then (some (decide (x5.1.2.2.1 ≤ 0))) else (some false))
noncomputable def spec_l6Sum.e (k : Nat) : FE := { α := (List Int) × (List Int) × Unit, β := Bool, args := (lCons (aSl (.i .i64)) (lCons (aSl (.i .i64)) lNil)), ret := (rOne aB), f := fun p => spec_l6Sum.f k p.1 p.2.1 }
noncomputable def spec_l6Sum.c (k : Nat) : List (Nat × CE) := [(93, .fn (spec_l3Abs.e k))]
noncomputable def spec_l6Sum.bd : Code := match Tryz.f94.body with | some c => c | none => .skip
noncomputable def spec_l6Sum.e5 (k : Nat) : LE := { H := spec_l6Sum.H5, α := spec_l6Sum.A5, β := spec_l6Sum.B5, st := spec_l6Sum.Z5, xt := spec_l6Sum.X5, f := fun p => spec_l6Sum.l5 k k p.1.1 p.1.2.1 p.1.2.2.1 p.1.2.2.2.1 p.1.2.2.2.2.1 p.1.2.2.2.2.2.1 }
noncomputable def spec_l6Sum.g (k : Nat) : List (Nat × LE) := [(5, spec_l6Sum.e5 k)]
theorem spec_l6Sum.t5 (k : Nat) (I : S2 → Option spec_l6Sum.B5) (x0 : List Int) (x1 : List Int) (x5 : Bool) (x6 : Bool) (x7 : Int) (x8 : Int) : stepOf (mkCx Tryz.prog (spec_l6Sum.c k) (spec_l6Sum.g k) : Cx spec_l6Sum.B5) (loopAt spec_l6Sum.bd 0) spec_l6Sum.H5 spec_l6Sum.X5.dec I (spec_l6Sum.Z5.enc ((x0, x1, x5, x6, x7, x8, ()), (()))) = spec_l6Sum.s5 k (fun x0 x1 x5 x6 x7 x8 => I (spec_l6Sum.Z5.enc ((x0, x1, x5, x6, x7, x8, ()), (())))) x0 x1 x5 x6 x7 x8 := by kernel_rfl
theorem spec_l6Sum.i5 (k : Nat) : ∀ (n : Nat) (x0 : List Int) (x1 : List Int) (x5 : Bool) (x6 : Bool) (x7 : Int) (x8 : Int), iter (evCode (mkCx Tryz.prog (spec_l6Sum.c k) (spec_l6Sum.g k) : Cx spec_l6Sum.B5) (loopAt spec_l6Sum.bd 0)) spec_l6Sum.H5 spec_l6Sum.X5.dec n (spec_l6Sum.Z5.enc ((x0, x1, x5, x6, x7, x8, ()), (()))) = spec_l6Sum.l5 k n x0 x1 x5 x6 x7 x8
  | 0, _, _, _, _, _, _ => rfl
  | n + 1, x0, x1, x5, x6, x7, x8 => ((iter_step _ _ _ _ n _).trans (spec_l6Sum.t5 k _ x0 x1 x5 x6 x7 x8)).trans (congrArg (fun J => spec_l6Sum.s5 k J x0 x1 x5 x6 x7 x8) (funext fun x0 => funext fun x1 => funext fun x5 => funext fun x6 => funext fun x7 => funext fun x8 => spec_l6Sum.i5 k n x0 x1 x5 x6 x7 x8))
theorem spec_l6Sum.to5 (k : Nat) (hC : AllFun Tryz.prog (spec_l6Sum.c k)) : LoopTo Tryz.prog 51 (spec_l6Sum.e5 k) (loopAt spec_l6Sum.bd 0) := loop_to mixed hC (by kernel_rfl) (loops_all 0 (by kernel_rfl) fun i hi => absurd hi (Nat.not_lt_zero i)) fun a b h => ⟨k, (spec_l6Sum.i5 k k a.1.1 a.1.2.1 a.1.2.2.1 a.1.2.2.2.1 a.1.2.2.2.2.1 a.1.2.2.2.2.2.1).trans h⟩
theorem spec_l6Sum.link (k : Nat) (a0 : List Int) (a1 : List Int) : evFun (mkCx Tryz.prog (spec_l6Sum.c k) (spec_l6Sum.g k) : Cx Bool) Tryz.f94 ((spec_l6Sum.e k).args.enc (a0, a1, ())) (spec_l6Sum.e k).ret.dec = spec_l6Sum.f k a0 a1 := by kernel_rfl
theorem spec_l6Sum.ok1 (k : Nat) (hC : AllFun Tryz.prog (spec_l6Sum.c k)) : Fun Tryz.prog 94 (spec_l6Sum.e k).G := fun_ok mixed (body := spec_l6Sum.bd) Tryz.func94 (by kernel_rfl) (by kernel_rfl) (by kernel_rfl) hC (loops_all 1 (by kernel_rfl) fun i hi => by obtain rfl : i = 0 := Nat.lt_one_iff.1 hi; exact ⟨spec_l6Sum.e5 k, by kernel_rfl, spec_l6Sum.to5 k hC⟩) (spec_l6Sum.e k) (fun a => Nat.le_of_ble_eq_true (by kernel_rfl)) fun a b h => (spec_l6Sum.link k a.1 a.2.1).trans h
theorem spec_l6Sum.ok (k : Nat) : Fun Tryz.prog 94 (spec_l6Sum.e k).G := spec_l6Sum.ok1 k ⟨spec_l3Abs.ok k, trivial⟩

noncomputable def spec_l6Clash3.H7 : Hd := ⟨[], [3, 4, 5, 7, 8, 9, 10], [3, 4, 5, 7, 8, 9], [], []⟩
@[reducible] def spec_l6Clash3.A7 : Type := ((Unit × Unit × Unit × Unit × Unit × Unit × Int × Unit) × (S4 × S4 × S4 × S3 × S3 × S3 × Unit))
noncomputable def spec_l6Clash3.Z7 : SC spec_l6Clash3.A7 := sC spec_l6Clash3.H7 (eCons 3 (tRef 3 0) (eCons 4 (tRef 4 0) (eCons 5 (tRef 5 0) (eCons 7 (tRef 7 0) (eCons 8 (tRef 8 0) (eCons 9 (tRef 9 0) (eCons 10 (tP (aI .i64)) eNil))))))) (bCons 3 (xVr cS4) (bCons 4 (xVr cS4) (bCons 5 (xVr cS4) (bCons 7 (xVr cS3) (bCons 8 (xVr cS3) (bCons 9 (xVr cS3) bNil))))))
@[reducible] def spec_l6Clash3.B7 : Type := ((Bool × Unit) × (Unit)) ⊕ ((Unit) × (Unit))
noncomputable def spec_l6Clash3.X7 : XC spec_l6Clash3.B7 := xOr (xRet (sC ⟨[], [6], [], [], []⟩ (eCons 6 (tP aB) eNil) bNil)) (xExit 0 (sC ⟨[], [], [], [], []⟩ eNil bNil))
noncomputable def spec_l6Clash3.s7 (k : Nat)  (J : Int → S4 → S4 → S4 → S3 → S3 → S3 → Option spec_l6Clash3.B7) (x10 : Int) (b3 : S4) (b4 : S4) (b5 : S4) (b7 : S3) (b8 : S3) (b9 : S3) : Option spec_l6Clash3.B7 :=
  if (decide (x10 < 3)) = true then (if 0 ≤ x10 then (if x10 < 3 then (if ((sel [b7.x, b7.y, b7.z] x10) != 0) = true then (if 0 ≤ x10 then (if x10 < 3 then (if 0 ≤ x10 then (if x10 < 3 then (if 0 ≤ x10 then (if x10 < 3 then ((spec_l6Sum.f k  ([(sel [b7.x, b7.y, b7.z] x10), (sel [b8.x, b8.y, b8.z] x10), (sel [b9.x, b9.y, b9.z] x10)] : List Int) ([b3.d, b4.d, b5.d] : List Int)).bind fun t5 => some (.inl ((t5, ()), (())))) else none) else none) else none) else none) else none) else none) else (if 0 ≤ x10 then (if x10 < 3 then (if ((sel [b8.x, b8.y, b8.z] x10) != 0) = true then (if 0 ≤ x10 then (if x10 < 3 then (if 0 ≤ x10 then (if x10 < 3 then (if 0 ≤ x10 then (if x10 < 3 then ((spec_l6Sum.f k  ([(sel [b7.x, b7.y, b7.z] x10), (sel [b8.x, b8.y, b8.z] x10), (sel [b9.x, b9.y, b9.z] x10)] : List Int) ([b3.d, b4.d, b5.d] : List Int)).bind fun t6 => some (.inl ((t6, ()), (())))) else none) else none) else none) else none) else none) else none) else (if 0 ≤ x10 then (if x10 < 3 then (if ((sel [b9.x, b9.y, b9.z] x10) != 0) = true then (if 0 ≤ x10 then (if x10 < 3 then (if 0 ≤ x10 then (if x10 < 3 then (if 0 ≤ x10 then (if x10 < 3 then ((spec_l6Sum.f k  ([(sel [b7.x, b7.y, b7.z] x10), (sel [b8.x, b8.y, b8.z] x10), (sel [b9.x, b9.y, b9.z] x10)] : List Int) ([b3.d, b4.d, b5.d] : List Int)).bind fun t7 => some (.inl ((t7, ()), (())))) else none) else none) else none) else none) else none) else none) else (J (W (x10 + 1)) b3 b4 b5 b7 b8 b9)) else none) else none)) else none) else none)) else none) else none) else (some (.inr ((()), (()))))
noncomputable def spec_l6Clash3.l7 (k : Nat)  : Nat → Int → S4 → S4 → S4 → S3 → S3 → S3 → Option spec_l6Clash3.B7
  | 0, _, _, _, _, _, _, _ => none
  | n + 1, x10, b3, b4, b5, b7, b8, b9 => spec_l6Clash3.s7 k (spec_l6Clash3.l7 k n) x10 b3 b4 b5 b7 b8 b9
noncomputable def spec_l6Clash3.f (k : Nat) (a0 : S4) (a1 : S4) (a2 : S4) : Option Bool :=
  (spec_l4Det3.f k  a0 a1 a2).bind fun t1 => if (t1 != 0) = true then (some false) else ((spec_l4Cross.f k  a1 a2).bind fun t2 => (spec_l4Cross.f k  a2 a0).bind fun t3 => (spec_l4Cross.f k  a0 a1).bind fun t4 => (spec_l6Clash3.l7 k k 0 a0 a1 a2 t2 t3 t4).bind fun | .inl r8 => (some r8.1.1) | .inr x9 => (some false))
noncomputable def spec_l6Clash3.e (k : Nat) : FE := { α := S4 × S4 × S4 × Unit, β := Bool, args := (lCons aS4 (lCons aS4 (lCons aS4 lNil))), ret := (rOne aB), f := fun p => spec_l6Clash3.f k p.1 p.2.1 p.2.2.1 }
noncomputable def spec_l6Clash3.c (k : Nat) : List (Nat × CE) := [(91, .fn (spec_l4Det3.e k)), (66, .fn (spec_l4Cross.e k)), (94, .fn (spec_l6Sum.e k))]
noncomputable def spec_l6Clash3.bd : Code := match Tryz.f73.body with | some c => c | none => .skip
noncomputable def spec_l6Clash3.e7 (k : Nat) : LE := { H := spec_l6Clash3.H7, α := spec_l6Clash3.A7, β := spec_l6Clash3.B7, st := spec_l6Clash3.Z7, xt := spec_l6Clash3.X7, f := fun p => spec_l6Clash3.l7 k k p.1.2.2.2.2.2.2.1 p.2.1 p.2.2.1 p.2.2.2.1 p.2.2.2.2.1 p.2.2.2.2.2.1 p.2.2.2.2.2.2.1 }
noncomputable def spec_l6Clash3.g (k : Nat) : List (Nat × LE) := [(7, spec_l6Clash3.e7 k)]
theorem spec_l6Clash3.t7 (k : Nat) (I : S2 → Option spec_l6Clash3.B7) (x10 : Int) (b3 : S4) (b4 : S4) (b5 : S4) (b7 : S3) (b8 : S3) (b9 : S3) : stepOf (mkCx Tryz.prog (spec_l6Clash3.c k) (spec_l6Clash3.g k) : Cx spec_l6Clash3.B7) (loopAt spec_l6Clash3.bd 0) spec_l6Clash3.H7 spec_l6Clash3.X7.dec I (spec_l6Clash3.Z7.enc (((), (), (), (), (), (), x10, ()), (b3, b4, b5, b7, b8, b9, ()))) = spec_l6Clash3.s7 k (fun x10 b3 b4 b5 b7 b8 b9 => I (spec_l6Clash3.Z7.enc (((), (), (), (), (), (), x10, ()), (b3, b4, b5, b7, b8, b9, ())))) x10 b3 b4 b5 b7 b8 b9 := by kernel_rfl
theorem spec_l6Clash3.i7 (k : Nat) : ∀ (n : Nat) (x10 : Int) (b3 : S4) (b4 : S4) (b5 : S4) (b7 : S3) (b8 : S3) (b9 : S3), iter (evCode (mkCx Tryz.prog (spec_l6Clash3.c k) (spec_l6Clash3.g k) : Cx spec_l6Clash3.B7) (loopAt spec_l6Clash3.bd 0)) spec_l6Clash3.H7 spec_l6Clash3.X7.dec n (spec_l6Clash3.Z7.enc (((), (), (), (), (), (), x10, ()), (b3, b4, b5, b7, b8, b9, ()))) = spec_l6Clash3.l7 k n x10 b3 b4 b5 b7 b8 b9
  | 0, _, _, _, _, _, _, _ => rfl
  | n + 1, x10, b3, b4, b5, b7, b8, b9 => ((iter_step _ _ _ _ n _).trans (spec_l6Clash3.t7 k _ x10 b3 b4 b5 b7 b8 b9)).trans (congrArg (fun J => spec_l6Clash3.s7 k J x10 b3 b4 b5 b7 b8 b9) (funext fun x10 => funext fun b3 => funext fun b4 => funext fun b5 => funext fun b7 => funext fun b8 => funext fun b9 => spec_l6Clash3.i7 k n x10 b3 b4 b5 b7 b8 b9))
theorem spec_l6Clash3.to7 (k : Nat) (hC : AllFun Tryz.prog (spec_l6Clash3.c k)) : LoopTo Tryz.prog 63 (spec_l6Clash3.e7 k) (loopAt spec_l6Clash3.bd 0) := loop_to mixed hC (by kernel_rfl) (loops_all 0 (by kernel_rfl) fun i hi => absurd hi (Nat.not_lt_zero i)) fun a b h => ⟨k, (spec_l6Clash3.i7 k k a.1.2.2.2.2.2.2.1 a.2.1 a.2.2.1 a.2.2.2.1 a.2.2.2.2.1 a.2.2.2.2.2.1 a.2.2.2.2.2.2.1).trans h⟩
theorem spec_l6Clash3.link (k : Nat) (a0 : S4) (a1 : S4) (a2 : S4) : evFun (mkCx Tryz.prog (spec_l6Clash3.c k) (spec_l6Clash3.g k) : Cx Bool) Tryz.f73 ((spec_l6Clash3.e k).args.enc (a0, a1, a2, ())) (spec_l6Clash3.e k).ret.dec = spec_l6Clash3.f k a0 a1 a2 := by kernel_rfl
theorem spec_l6Clash3.ok1 (k : Nat) (hC : AllFun Tryz.prog (spec_l6Clash3.c k)) : Fun Tryz.prog 73 (spec_l6Clash3.e k).G := fun_ok mixed (body := spec_l6Clash3.bd) Tryz.func73 (by kernel_rfl) (by kernel_rfl) (by kernel_rfl) hC (loops_all 1 (by kernel_rfl) fun i hi => by obtain rfl : i = 0 := Nat.lt_one_iff.1 hi; exact ⟨spec_l6Clash3.e7 k, by kernel_rfl, spec_l6Clash3.to7 k hC⟩) (spec_l6Clash3.e k) (fun a => Nat.le_of_ble_eq_true (by kernel_rfl)) fun a b h => (spec_l6Clash3.link k a.1 a.2.1 a.2.2.1).trans h
theorem spec_l6Clash3.ok (k : Nat) : Fun Tryz.prog 73 (spec_l6Clash3.e k).G := spec_l6Clash3.ok1 k ⟨spec_l4Det3.ok k, spec_l4Cross.ok k, spec_l6Sum.ok k, trivial⟩

noncomputable def spec_l6Clash4.f (k : Nat) (a0 : S4) (a1 : S4) (a2 : S4) (a3 : S4) : Option Bool :=
  (spec_l4Det3.f k  a1 a2 a3).bind fun t1 => (spec_l4Det3.f k  a0 a2 a3).bind fun t2 => (spec_l4Det3.f k  a0 a1 a3).bind fun t3 => (spec_l4Det3.f k  a0 a1 a2).bind fun t4 => (spec_l6Sum.f k  ([t1, (W (0 - t2)), t3, (W (0 - t4))] : List Int) ([a0.d, a1.d, a2.d, a3.d] : List Int)).bind fun t5 => some t5
noncomputable def spec_l6Clash4.e (k : Nat) : FE := { α := S4 × S4 × S4 × S4 × Unit, β := Bool, args := (lCons aS4 (lCons aS4 (lCons aS4 (lCons aS4 lNil)))), ret := (rOne aB), f := fun p => spec_l6Clash4.f k p.1 p.2.1 p.2.2.1 p.2.2.2.1 }
noncomputable def spec_l6Clash4.c (k : Nat) : List (Nat × CE) := [(91, .fn (spec_l4Det3.e k)), (94, .fn (spec_l6Sum.e k))]
noncomputable def spec_l6Clash4.bd : Code := match Tryz.f74.body with | some c => c | none => .skip
noncomputable def spec_l6Clash4.g (k : Nat) : List (Nat × LE) := []
theorem spec_l6Clash4.link (k : Nat) (a0 : S4) (a1 : S4) (a2 : S4) (a3 : S4) : evFun (mkCx Tryz.prog (spec_l6Clash4.c k) (spec_l6Clash4.g k) : Cx Bool) Tryz.f74 ((spec_l6Clash4.e k).args.enc (a0, a1, a2, a3, ())) (spec_l6Clash4.e k).ret.dec = spec_l6Clash4.f k a0 a1 a2 a3 := by kernel_rfl
theorem spec_l6Clash4.ok1 (k : Nat) (hC : AllFun Tryz.prog (spec_l6Clash4.c k)) : Fun Tryz.prog 74 (spec_l6Clash4.e k).G := fun_ok mixed (body := spec_l6Clash4.bd) Tryz.func74 (by kernel_rfl) (by kernel_rfl) (by kernel_rfl) hC (loops_all 0 (by kernel_rfl) fun i hi => absurd hi (Nat.not_lt_zero i)) (spec_l6Clash4.e k) (fun a => Nat.le_of_ble_eq_true (by kernel_rfl)) fun a b h => (spec_l6Clash4.link k a.1 a.2.1 a.2.2.1 a.2.2.2.1).trans h
theorem spec_l6Clash4.ok (k : Nat) : Fun Tryz.prog 74 (spec_l6Clash4.e k).G := spec_l6Clash4.ok1 k ⟨spec_l4Det3.ok k, spec_l6Sum.ok k, trivial⟩

noncomputable def spec_l6With.H13 : Hd := ⟨[], [0, 3, 5, 6, 7, 8], [3], [], []⟩
@[reducible] def spec_l6With.A13 : Type := (((List S4) × Unit × Int × Int × Int × Int × Unit) × (S4 × Unit))
noncomputable def spec_l6With.Z13 : SC spec_l6With.A13 := sC spec_l6With.H13 (eCons 0 (tP (aSl .s4)) (eCons 3 (tRef 3 0) (eCons 5 (tP (aI .i64)) (eCons 6 (tP (aI .i64)) (eCons 7 (tP (aI .i64)) (eCons 8 (tP (aI .i64)) eNil)))))) (bCons 3 (xVr cS4) bNil)
@[reducible] def spec_l6With.B13 : Type := ((Bool × Unit) × (Unit)) ⊕ (((List S4) × Unit × Int × Int × Int × Unit) × (S4 × Unit))
noncomputable def spec_l6With.X13 : XC spec_l6With.B13 := xOr (xRet (sC ⟨[], [4], [], [], []⟩ (eCons 4 (tP aB) eNil) bNil)) (xExit 4 (sC ⟨[], [0, 3, 5, 6, 7], [3], [], []⟩ (eCons 0 (tP (aSl .s4)) (eCons 3 (tRef 3 0) (eCons 5 (tP (aI .i64)) (eCons 6 (tP (aI .i64)) (eCons 7 (tP (aI .i64)) eNil))))) (bCons 3 (xVr cS4) bNil)))
noncomputable def spec_l6With.s13 (k : Nat)  (J : (List S4) → Int → Int → Int → Int → S4 → Option spec_l6With.B13) (x0 : List S4) (x5 : Int) (x6 : Int) (x7 : Int) (x8 : Int) (b3 : S4) : Option spec_l6With.B13 :=
  if (decide (x8 < x5)) = true then (if 0 ≤ x6 then (if x6 < (x0.length : Int) then (if 0 ≤ x7 then (if x7 < (x0.length : Int) then (if 0 ≤ x8 then (if x8 < (x0.length : Int) then ((spec_l6Clash4.f k  (rd x0 x6) (rd x0 x7) (rd x0 x8) b3).bind fun t3 => if t3 = true then (some (.inl ((true, ()), (())))) else (J x0 x5 x6 x7 (W (x8 + 1)) b3)) else none) else none) else none) else none) else none) else none) else (some (.inr ((x0, (), x5, x6, x7, ()), (b3, ()))))
noncomputable def spec_l6With.l13 (k : Nat)  : Nat → (List S4) → Int → Int → Int → Int → S4 → Option spec_l6With.B13
  | 0, _, _, _, _, _, _ => none
  | n + 1, x0, x5, x6, x7, x8, b3 => spec_l6With.s13 k (spec_l6With.l13 k n) x0 x5 x6 x7 x8 b3
noncomputable def spec_l6With.H8 : Hd := ⟨[], [0, 3, 5, 6, 7], [3], [], []⟩
@[reducible] def spec_l6With.A8 : Type := (((List S4) × Unit × Int × Int × Int × Unit) × (S4 × Unit))
noncomputable def spec_l6With.Z8 : SC spec_l6With.A8 := sC spec_l6With.H8 (eCons 0 (tP (aSl .s4)) (eCons 3 (tRef 3 0) (eCons 5 (tP (aI .i64)) (eCons 6 (tP (aI .i64)) (eCons 7 (tP (aI .i64)) eNil))))) (bCons 3 (xVr cS4) bNil)
@[reducible] def spec_l6With.B8 : Type := ((Bool × Unit) × (Unit)) ⊕ (((List S4) × Unit × Int × Int × Unit) × (S4 × Unit))
noncomputable def spec_l6With.X8 : XC spec_l6With.B8 := xOr (xRet (sC ⟨[], [4], [], [], []⟩ (eCons 4 (tP aB) eNil) bNil)) (xExit 2 (sC ⟨[], [0, 3, 5, 6], [3], [], []⟩ (eCons 0 (tP (aSl .s4)) (eCons 3 (tRef 3 0) (eCons 5 (tP (aI .i64)) (eCons 6 (tP (aI .i64)) eNil)))) (bCons 3 (xVr cS4) bNil)))
noncomputable def spec_l6With.s8 (k : Nat)  (J : (List S4) → Int → Int → Int → S4 → Option spec_l6With.B8) (x0 : List S4) (x5 : Int) (x6 : Int) (x7 : Int) (b3 : S4) : Option spec_l6With.B8 :=
  if (decide (x7 < x5)) = true then (if 0 ≤ x6 then (if x6 < (x0.length : Int) then (if 0 ≤ x7 then (if x7 < (x0.length : Int) then ((spec_l6Clash3.f k  (rd x0 x6) (rd x0 x7) b3).bind fun t2 => if t2 = true then (some (.inl ((true, ()), (())))) else ((spec_l6With.l13 k k x0 x5 x6 x7 (W (x7 + 1)) b3).bind fun | .inl r4 => (some (.inl ((r4.1.1, ()), (())))) | .inr x5 => (J x5.1.1 x5.1.2.2.1 x5.1.2.2.2.1 (W (x5.1.2.2.2.2.1 + 1)) x5.2.1))) else none) else none) else none) else none) else (some (.inr ((x0, (), x5, x6, ()), (b3, ()))))
noncomputable def spec_l6With.l8 (k : Nat)  : Nat → (List S4) → Int → Int → Int → S4 → Option spec_l6With.B8
  | 0, _, _, _, _, _ => none
  | n + 1, x0, x5, x6, x7, b3 => spec_l6With.s8 k (spec_l6With.l8 k n) x0 x5 x6 x7 b3
noncomputable def spec_l6With.H3 : Hd := ⟨[], [0, 3, 5, 6], [3], [], []⟩
@[reducible] def spec_l6With.A3 : Type := (((List S4) × Unit × Int × Int × Unit) × (S4 × Unit))
noncomputable def spec_l6With.Z3 : SC spec_l6With.A3 := sC spec_l6With.H3 (eCons 0 (tP (aSl .s4)) (eCons 3 (tRef 3 0) (eCons 5 (tP (aI .i64)) (eCons 6 (tP (aI .i64)) eNil)))) (bCons 3 (xVr cS4) bNil)
@[reducible] def spec_l6With.B3 : Type := ((Bool × Unit) × (Unit)) ⊕ ((Unit) × (Unit))
noncomputable def spec_l6With.X3 : XC spec_l6With.B3 := xOr (xRet (sC ⟨[], [4], [], [], []⟩ (eCons 4 (tP aB) eNil) bNil)) (xExit 0 (sC ⟨[], [], [], [], []⟩ eNil bNil))
noncomputable def spec_l6With.s3 (k : Nat)  (J : (List S4) → Int → Int → S4 → Option spec_l6With.B3) (x0 : List S4) (x5 : Int) (x6 : Int) (b3 : S4) : Option spec_l6With.B3 :=
  if (decide (x6 < x5)) = true then (if 0 ≤ x6 then (if x6 < (x0.length : Int) then ((spec_l6Clash2.f k  (rd x0 x6) b3).bind fun t1 => if t1 = true then (some (.inl ((true, ()), (())))) else ((spec_l6With.l8 k k x0 x5 x6 (W (x6 + 1)) b3).bind fun | .inl r6 => (some (.inl ((r6.1.1, ()), (())))) | .inr x7 => (J x7.1.1 x7.1.2.2.1 (W (x7.1.2.2.2.1 + 1)) x7.2.1))) else none) else none) else (some (.inr ((()), (()))))
noncomputable def spec_l6With.l3 (k : Nat)  : Nat → (List S4) → Int → Int → S4 → Option spec_l6With.B3
  | 0, _, _, _, _ => none
  | n + 1, x0, x5, x6, b3 => spec_l6With.s3 k (spec_l6With.l3 k n) x0 x5 x6 b3
noncomputable def spec_l6With.f (k : Nat) (a0 : List S4) (a1 : S4) : Option Bool :=
  (spec_l6With.l3 k k a0 (a0.length : Int) 0 a1).bind fun | .inl r8 => (some r8.1.1) | .inr x9 => (some false)
noncomputable def spec_l6With.e (k : Nat) : FE := { α := (List S4) × S4 × Unit, β := Bool, args := (lCons (aSl .s4) (lCons aS4 lNil)), ret := (rOne aB), f := fun p => spec_l6With.f k p.1 p.2.1 }
noncomputable def spec_l6With.c (k : Nat) : List (Nat × CE) := [(72, .fn (spec_l6Clash2.e k)), (73, .fn (spec_l6Clash3.e k)), (74, .fn (spec_l6Clash4.e k))]
noncomputable def spec_l6With.bd : Code := match Tryz.f37.body with | some c => c | none => .skip
noncomputable def spec_l6With.e13 (k : Nat) : LE := { H := spec_l6With.H13, α := spec_l6With.A13, β := spec_l6With.B13, st := spec_l6With.Z13, xt := spec_l6With.X13, f := fun p => spec_l6With.l13 k k p.1.1 p.1.2.2.1 p.1.2.2.2.1 p.1.2.2.2.2.1 p.1.2.2.2.2.2.1 p.2.1 }
noncomputable def spec_l6With.e8 (k : Nat) : LE := { H := spec_l6With.H8, α := spec_l6With.A8, β := spec_l6With.B8, st := spec_l6With.Z8, xt := spec_l6With.X8, f := fun p => spec_l6With.l8 k k p.1.1 p.1.2.2.1 p.1.2.2.2.1 p.1.2.2.2.2.1 p.2.1 }
noncomputable def spec_l6With.e3 (k : Nat) : LE := { H := spec_l6With.H3, α := spec_l6With.A3, β := spec_l6With.B3, st := spec_l6With.Z3, xt := spec_l6With.X3, f := fun p => spec_l6With.l3 k k p.1.1 p.1.2.2.1 p.1.2.2.2.1 p.2.1 }
noncomputable def spec_l6With.g (k : Nat) : List (Nat × LE) := [(13, spec_l6With.e13 k), (8, spec_l6With.e8 k), (3, spec_l6With.e3 k)]
theorem spec_l6With.t13 (k : Nat) (I : S2 → Option spec_l6With.B13) (x0 : List S4) (x5 : Int) (x6 : Int) (x7 : Int) (x8 : Int) (b3 : S4) : stepOf (mkCx Tryz.prog (spec_l6With.c k) (spec_l6With.g k) : Cx spec_l6With.B13) (loopAt (loopAt (loopAt spec_l6With.bd 0) 0) 0) spec_l6With.H13 spec_l6With.X13.dec I (spec_l6With.Z13.enc ((x0, (), x5, x6, x7, x8, ()), (b3, ()))) = spec_l6With.s13 k (fun x0 x5 x6 x7 x8 b3 => I (spec_l6With.Z13.enc ((x0, (), x5, x6, x7, x8, ()), (b3, ())))) x0 x5 x6 x7 x8 b3 := by kernel_rfl
theorem spec_l6With.i13 (k : Nat) : ∀ (n : Nat) (x0 : List S4) (x5 : Int) (x6 : Int) (x7 : Int) (x8 : Int) (b3 : S4), iter (evCode (mkCx Tryz.prog (spec_l6With.c k) (spec_l6With.g k) : Cx spec_l6With.B13) (loopAt (loopAt (loopAt spec_l6With.bd 0) 0) 0)) spec_l6With.H13 spec_l6With.X13.dec n (spec_l6With.Z13.enc ((x0, (), x5, x6, x7, x8, ()), (b3, ()))) = spec_l6With.l13 k n x0 x5 x6 x7 x8 b3
  | 0, _, _, _, _, _, _ => rfl
  | n + 1, x0, x5, x6, x7, x8, b3 => ((iter_step _ _ _ _ n _).trans (spec_l6With.t13 k _ x0 x5 x6 x7 x8 b3)).trans (congrArg (fun J => spec_l6With.s13 k J x0 x5 x6 x7 x8 b3) (funext fun x0 => funext fun x5 => funext fun x6 => funext fun x7 => funext fun x8 => funext fun b3 => spec_l6With.i13 k n x0 x5 x6 x7 x8 b3))
theorem spec_l6With.t8 (k : Nat) (I : S2 → Option spec_l6With.B8) (x0 : List S4) (x5 : Int) (x6 : Int) (x7 : Int) (b3 : S4) : stepOf (mkCx Tryz.prog (spec_l6With.c k) (spec_l6With.g k) : Cx spec_l6With.B8) (loopAt (loopAt spec_l6With.bd 0) 0) spec_l6With.H8 spec_l6With.X8.dec I (spec_l6With.Z8.enc ((x0, (), x5, x6, x7, ()), (b3, ()))) = spec_l6With.s8 k (fun x0 x5 x6 x7 b3 => I (spec_l6With.Z8.enc ((x0, (), x5, x6, x7, ()), (b3, ())))) x0 x5 x6 x7 b3 := by kernel_rfl
theorem spec_l6With.i8 (k : Nat) : ∀ (n : Nat) (x0 : List S4) (x5 : Int) (x6 : Int) (x7 : Int) (b3 : S4), iter (evCode (mkCx Tryz.prog (spec_l6With.c k) (spec_l6With.g k) : Cx spec_l6With.B8) (loopAt (loopAt spec_l6With.bd 0) 0)) spec_l6With.H8 spec_l6With.X8.dec n (spec_l6With.Z8.enc ((x0, (), x5, x6, x7, ()), (b3, ()))) = spec_l6With.l8 k n x0 x5 x6 x7 b3
  | 0, _, _, _, _, _ => rfl
  | n + 1, x0, x5, x6, x7, b3 => ((iter_step _ _ _ _ n _).trans (spec_l6With.t8 k _ x0 x5 x6 x7 b3)).trans (congrArg (fun J => spec_l6With.s8 k J x0 x5 x6 x7 b3) (funext fun x0 => funext fun x5 => funext fun x6 => funext fun x7 => funext fun b3 => spec_l6With.i8 k n x0 x5 x6 x7 b3))
theorem spec_l6With.t3 (k : Nat) (I : S2 → Option spec_l6With.B3) (x0 : List S4) (x5 : Int) (x6 : Int) (b3 : S4) : stepOf (mkCx Tryz.prog (spec_l6With.c k) (spec_l6With.g k) : Cx spec_l6With.B3) (loopAt spec_l6With.bd 0) spec_l6With.H3 spec_l6With.X3.dec I (spec_l6With.Z3.enc ((x0, (), x5, x6, ()), (b3, ()))) = spec_l6With.s3 k (fun x0 x5 x6 b3 => I (spec_l6With.Z3.enc ((x0, (), x5, x6, ()), (b3, ())))) x0 x5 x6 b3 := by kernel_rfl
theorem spec_l6With.i3 (k : Nat) : ∀ (n : Nat) (x0 : List S4) (x5 : Int) (x6 : Int) (b3 : S4), iter (evCode (mkCx Tryz.prog (spec_l6With.c k) (spec_l6With.g k) : Cx spec_l6With.B3) (loopAt spec_l6With.bd 0)) spec_l6With.H3 spec_l6With.X3.dec n (spec_l6With.Z3.enc ((x0, (), x5, x6, ()), (b3, ()))) = spec_l6With.l3 k n x0 x5 x6 b3
  | 0, _, _, _, _ => rfl
  | n + 1, x0, x5, x6, b3 => ((iter_step _ _ _ _ n _).trans (spec_l6With.t3 k _ x0 x5 x6 b3)).trans (congrArg (fun J => spec_l6With.s3 k J x0 x5 x6 b3) (funext fun x0 => funext fun x5 => funext fun x6 => funext fun b3 => spec_l6With.i3 k n x0 x5 x6 b3))
theorem spec_l6With.to13 (k : Nat) (hC : AllFun Tryz.prog (spec_l6With.c k)) : LoopTo Tryz.prog 60 (spec_l6With.e13 k) (loopAt (loopAt (loopAt spec_l6With.bd 0) 0) 0) := loop_to mixed hC (by kernel_rfl) (loops_all 0 (by kernel_rfl) fun i hi => absurd hi (Nat.not_lt_zero i)) fun a b h => ⟨k, (spec_l6With.i13 k k a.1.1 a.1.2.2.1 a.1.2.2.2.1 a.1.2.2.2.2.1 a.1.2.2.2.2.2.1 a.2.1).trans h⟩
theorem spec_l6With.to8 (k : Nat) (hC : AllFun Tryz.prog (spec_l6With.c k)) : LoopTo Tryz.prog 60 (spec_l6With.e8 k) (loopAt (loopAt spec_l6With.bd 0) 0) := loop_to mixed hC (by kernel_rfl) (loops_all 1 (by kernel_rfl) fun i hi => by obtain rfl : i = 0 := Nat.lt_one_iff.1 hi; exact ⟨spec_l6With.e13 k, by kernel_rfl, spec_l6With.to13 k hC⟩) fun a b h => ⟨k, (spec_l6With.i8 k k a.1.1 a.1.2.2.1 a.1.2.2.2.1 a.1.2.2.2.2.1 a.2.1).trans h⟩
theorem spec_l6With.to3 (k : Nat) (hC : AllFun Tryz.prog (spec_l6With.c k)) : LoopTo Tryz.prog 60 (spec_l6With.e3 k) (loopAt spec_l6With.bd 0) := loop_to mixed hC (by kernel_rfl) (loops_all 1 (by kernel_rfl) fun i hi => by obtain rfl : i = 0 := Nat.lt_one_iff.1 hi; exact ⟨spec_l6With.e8 k, by kernel_rfl, spec_l6With.to8 k hC⟩) fun a b h => ⟨k, (spec_l6With.i3 k k a.1.1 a.1.2.2.1 a.1.2.2.2.1 a.2.1).trans h⟩
theorem spec_l6With.link (k : Nat) (a0 : List S4) (a1 : S4) : evFun (mkCx Tryz.prog (spec_l6With.c k) (spec_l6With.g k) : Cx Bool) Tryz.f37 ((spec_l6With.e k).args.enc (a0, a1, ())) (spec_l6With.e k).ret.dec = spec_l6With.f k a0 a1 := by kernel_rfl
theorem spec_l6With.ok1 (k : Nat) (hC : AllFun Tryz.prog (spec_l6With.c k)) : Fun Tryz.prog 37 (spec_l6With.e k).G := fun_ok mixed (body := spec_l6With.bd) Tryz.func37 (by kernel_rfl) (by kernel_rfl) (by kernel_rfl) hC (loops_all 1 (by kernel_rfl) fun i hi => by obtain rfl : i = 0 := Nat.lt_one_iff.1 hi; exact ⟨spec_l6With.e3 k, by kernel_rfl, spec_l6With.to3 k hC⟩) (spec_l6With.e k) (fun a => Nat.le_of_ble_eq_true (by kernel_rfl)) fun a b h => (spec_l6With.link k a.1 a.2.1).trans h
theorem spec_l6With.ok (k : Nat) : Fun Tryz.prog 37 (spec_l6With.e k).G := spec_l6With.ok1 k ⟨spec_l6Clash2.ok k, spec_l6Clash3.ok k, spec_l6Clash4.ok k, trivial⟩

noncomputable def spec_l6Cell.H6 : Hd := ⟨[], [0, 5, 7], [999999], [], []⟩
@[reducible] def spec_l6Cell.A6 : Type := ((Unit × Unit × Int × Unit) × ((((List Int) × Int × Int × Unit)) × (List S4) × Unit))
noncomputable def spec_l6Cell.Z6 : SC spec_l6Cell.A6 := sC spec_l6Cell.H6 (eCons 0 (tRef 999999 0) (eCons 5 (tOsl 1000005) (eCons 7 (tP (aI .i64)) eNil))) (bCons 999999 (xVr (lCons (aSl (.i .u8)) (lCons (aI .i64) (lCons (aI .i64) lNil)))) (bCons 1000005 (xRow 29 .s4) bNil))
@[reducible] def spec_l6Cell.B6 : Type := ((Unit × Unit × Unit) × ((((List Int) × Int × Int × Unit)) × (List S4) × Unit))
noncomputable def spec_l6Cell.X6 : XC spec_l6Cell.B6 := xExit 0 (sC ⟨[], [0, 5], [999999], [], []⟩ (eCons 0 (tRef 999999 0) (eCons 5 (tOsl 1000005) eNil)) (bCons 999999 (xVr (lCons (aSl (.i .u8)) (lCons (aI .i64) (lCons (aI .i64) lNil)))) (bCons 1000005 (xRow 29 .s4) bNil)))
noncomputable def spec_l6Cell.s6 (k : Nat)  (J : Int → ((List Int) × Int × Int × Unit) → (List S4) → Option spec_l6Cell.B6) (x7 : Int) (b999999 : ((List Int) × Int × Int × Unit)) (b1000005 : List S4) : Option spec_l6Cell.B6 :=
  if (decide (x7 > 0)) = true then ((spec_l3Draw.f k  (b999999.1, b999999.2.1, b999999.2.2.1, ())).bind fun t4 => (spec_l6With.f k  b1000005 t4.1).bind fun t5 => if (!t5) = true then (if lt47 (b1000005.length + ([t4.1] : List S4).length) = true then (J (W (x7 - 1)) (t4.2.1, t4.2.2.1, t4.2.2.2.1, ()) (b1000005 ++ ([t4.1] : List S4))) else none) else (J (W (x7 - 1)) (t4.2.1, t4.2.2.1, t4.2.2.2.1, ()) b1000005)) else (some (((), (), ()), ((b999999.1, b999999.2.1, b999999.2.2.1, ()), b1000005, ())))
noncomputable def spec_l6Cell.l6 (k : Nat)  : Nat → Int → ((List Int) × Int × Int × Unit) → (List S4) → Option spec_l6Cell.B6
  | 0, _, _, _ => none
  | n + 1, x7, b999999, b1000005 => spec_l6Cell.s6 k (spec_l6Cell.l6 k n) x7 b999999 b1000005
noncomputable def spec_l6Cell.f (k : Nat) (a0 : ((List Int) × Int × Int × Unit)) (a1 : Int) : Option ((List S4) × ((List Int) × Int × Int × Unit)) :=
  (spec_l1Once.f k  (a0.1, a0.2.1, a0.2.2.1, ()) 4).bind fun t1 => if (!t1.1) = true then ((spec_l1Below.f k  (t1.2.1, t1.2.2.1, t1.2.2.2.1, ()) 5).bind fun t2 => (spec_l1Below.f k  (t2.2.1, t2.2.2.1, t2.2.2.2.1, ()) a1).bind fun t3 => (spec_l6Cell.l6 k k t3.1 (t3.2.1, t3.2.2.1, t3.2.2.2.1, ()) ([(⟨1, 0, 0, (W (1 + t2.1))⟩ : S4), (⟨(-1), 0, 0, (W (1 + t2.1))⟩ : S4), (⟨0, 1, 0, (W (1 + t2.1))⟩ : S4), (⟨0, (-1), 0, (W ((W (1 + t2.1)) + 1))⟩ : S4), (⟨0, 0, 1, (W (1 + t2.1))⟩ : S4), (⟨0, 0, (-1), (W (1 + t2.1))⟩ : S4)] : List S4)).bind fun x6 => some (x6.2.2.1, (x6.2.1.1, x6.2.1.2.1, x6.2.1.2.2.1, ()))) else ((spec_l1Below.f k  (t1.2.1, t1.2.2.1, t1.2.2.2.1, ()) a1).bind fun t7 => (spec_l6Cell.l6 k k t7.1 (t7.2.1, t7.2.2.1, t7.2.2.2.1, ()) ([] : List S4)).bind fun x8 => some (x8.2.2.1, (x8.2.1.1, x8.2.1.2.1, x8.2.1.2.2.1, ())))
noncomputable def spec_l6Cell.e (k : Nat) : FS := { σ := ((List Int) × Int × Int × Unit), α := Int × Unit, β := List S4, sk := .var, st := (xVr (lCons (aSl (.i .u8)) (lCons (aI .i64) (lCons (aI .i64) lNil)))), args := (lCons (aI .i64) lNil), ret := (rOwn 29 .s4), f := fun s p => spec_l6Cell.f k s p.1 }
noncomputable def spec_l6Cell.c (k : Nat) : List (Nat × CE) := [(34, .st (spec_l1Once.e k)), (35, .st (spec_l1Below.e k)), (36, .st (spec_l3Draw.e k)), (37, .fn (spec_l6With.e k))]
noncomputable def spec_l6Cell.bd : Code := match Tryz.f17.body with | some c => c | none => .skip
noncomputable def spec_l6Cell.e6 (k : Nat) : LE := { H := spec_l6Cell.H6, α := spec_l6Cell.A6, β := spec_l6Cell.B6, st := spec_l6Cell.Z6, xt := spec_l6Cell.X6, f := fun p => spec_l6Cell.l6 k k p.1.2.2.1 p.2.1 p.2.2.1 }
noncomputable def spec_l6Cell.g (k : Nat) : List (Nat × LE) := [(6, spec_l6Cell.e6 k)]
theorem spec_l6Cell.t6 (k : Nat) (I : S2 → Option spec_l6Cell.B6) (x7 : Int) (b999999 : ((List Int) × Int × Int × Unit)) (b1000005 : List S4) : stepOf (mkCx Tryz.prog (spec_l6Cell.c k) (spec_l6Cell.g k) : Cx spec_l6Cell.B6) (loopAt spec_l6Cell.bd 0) spec_l6Cell.H6 spec_l6Cell.X6.dec I (spec_l6Cell.Z6.enc (((), (), x7, ()), (b999999, b1000005, ()))) = spec_l6Cell.s6 k (fun x7 b999999 b1000005 => I (spec_l6Cell.Z6.enc (((), (), x7, ()), (b999999, b1000005, ())))) x7 b999999 b1000005 := by kernel_rfl
theorem spec_l6Cell.i6 (k : Nat) : ∀ (n : Nat) (x7 : Int) (b999999 : ((List Int) × Int × Int × Unit)) (b1000005 : List S4), iter (evCode (mkCx Tryz.prog (spec_l6Cell.c k) (spec_l6Cell.g k) : Cx spec_l6Cell.B6) (loopAt spec_l6Cell.bd 0)) spec_l6Cell.H6 spec_l6Cell.X6.dec n (spec_l6Cell.Z6.enc (((), (), x7, ()), (b999999, b1000005, ()))) = spec_l6Cell.l6 k n x7 b999999 b1000005
  | 0, _, _, _ => rfl
  | n + 1, x7, b999999, b1000005 => ((iter_step _ _ _ _ n _).trans (spec_l6Cell.t6 k _ x7 b999999 b1000005)).trans (congrArg (fun J => spec_l6Cell.s6 k J x7 b999999 b1000005) (funext fun x7 => funext fun b999999 => funext fun b1000005 => spec_l6Cell.i6 k n x7 b999999 b1000005))
theorem spec_l6Cell.to6 (k : Nat) (hC : AllFun Tryz.prog (spec_l6Cell.c k)) : LoopTo Tryz.prog 48 (spec_l6Cell.e6 k) (loopAt spec_l6Cell.bd 0) := loop_to mixed hC (by kernel_rfl) (loops_all 0 (by kernel_rfl) fun i hi => absurd hi (Nat.not_lt_zero i)) fun a b h => ⟨k, (spec_l6Cell.i6 k k a.1.2.2.1 a.2.1 a.2.2.1).trans h⟩
theorem spec_l6Cell.link (k : Nat) (a0 : ((List Int) × Int × Int × Unit)) (a1 : Int) : evFunS (mkCx Tryz.prog (spec_l6Cell.c k) (spec_l6Cell.g k) : Cx ((List S4) × ((List Int) × Int × Int × Unit))) Tryz.f17 (spec_l6Cell.e k).sk ((spec_l6Cell.e k).st.enc a0) ((spec_l6Cell.e k).args.enc (a1, ())) (spec_l6Cell.e k).fin = spec_l6Cell.f k a0 a1 := by kernel_rfl
theorem spec_l6Cell.ok1 (k : Nat) (hC : AllFun Tryz.prog (spec_l6Cell.c k)) : FunS Tryz.prog 17 (spec_l6Cell.e k).sk (spec_l6Cell.e k).H := fun_okS mixed (body := spec_l6Cell.bd) Tryz.func17 (by kernel_rfl) (by kernel_rfl) (by kernel_rfl) hC (loops_all 1 (by kernel_rfl) fun i hi => by obtain rfl : i = 0 := Nat.lt_one_iff.1 hi; exact ⟨spec_l6Cell.e6 k, by kernel_rfl, spec_l6Cell.to6 k hC⟩) (spec_l6Cell.e k) (fun a => Nat.le_of_ble_eq_true (by kernel_rfl)) (Nat.le_of_ble_eq_true (by kernel_rfl)) fun s a b h => (spec_l6Cell.link k s a.1).trans h
theorem spec_l6Cell.ok (k : Nat) : FunS Tryz.prog 17 (spec_l6Cell.e k).sk (spec_l6Cell.e k).H := spec_l6Cell.ok1 k ⟨spec_l1Once.ok k, spec_l1Below.ok k, spec_l3Draw.ok k, spec_l6With.ok k, trivial⟩

noncomputable def spec_DrawCell.f (k : Nat) (a0 : List Int) : Option (List S4) :=
  (spec_l1New.f k  a0).bind fun t1 => (spec_l6Cell.f k  (t1.1, t1.2.1, t1.2.2.1, ()) 6).bind fun t2 => some t2.1
noncomputable def spec_DrawCell.e (k : Nat) : FE := { α := (List Int) × Unit, β := List S4, args := (lCons (aSl (.i .u8)) lNil), ret := (rOwn 29 .s4), f := fun p => spec_DrawCell.f k p.1 }
noncomputable def spec_DrawCell.c (k : Nat) : List (Nat × CE) := [(16, .fn (spec_l1New.e k)), (17, .st (spec_l6Cell.e k))]
noncomputable def spec_DrawCell.bd : Code := match Tryz.f6.body with | some c => c | none => .skip
noncomputable def spec_DrawCell.g (k : Nat) : List (Nat × LE) := []
theorem spec_DrawCell.link (k : Nat) (a0 : List Int) : evFun (mkCx Tryz.prog (spec_DrawCell.c k) (spec_DrawCell.g k) : Cx (List S4)) Tryz.f6 ((spec_DrawCell.e k).args.enc (a0, ())) (spec_DrawCell.e k).ret.dec = spec_DrawCell.f k a0 := by kernel_rfl
theorem spec_DrawCell.ok1 (k : Nat) (hC : AllFun Tryz.prog (spec_DrawCell.c k)) : Fun Tryz.prog 6 (spec_DrawCell.e k).G := fun_ok mixed (body := spec_DrawCell.bd) Tryz.func6 (by kernel_rfl) (by kernel_rfl) (by kernel_rfl) hC (loops_all 0 (by kernel_rfl) fun i hi => absurd hi (Nat.not_lt_zero i)) (spec_DrawCell.e k) (fun a => Nat.le_of_ble_eq_true (by kernel_rfl)) fun a b h => (spec_DrawCell.link k a.1).trans h
theorem spec_DrawCell.ok (k : Nat) : Fun Tryz.prog 6 (spec_DrawCell.e k).G := spec_DrawCell.ok1 k ⟨spec_l1New.ok k, spec_l6Cell.ok k, trivial⟩

noncomputable def impl_divisor.H6 : Hd := ⟨[], [3, 5, 6, 7, 8], [], [], []⟩
@[reducible] def impl_divisor.A6 : Type := ((Int × Int × (List Int) × Int × Int × Unit) × (Unit))
noncomputable def impl_divisor.Z6 : SC impl_divisor.A6 := sC impl_divisor.H6 (eCons 3 (tP (aI .i64)) (eCons 5 (tP (aI .i64)) (eCons 6 (tP (aSl (.i .i64))) (eCons 7 (tP (aI .i64)) (eCons 8 (tP (aI .i64)) eNil))))) bNil
@[reducible] def impl_divisor.B6 : Type := ((Int × (List Int) × Int × Int × Unit) × (Unit))
noncomputable def impl_divisor.X6 : XC impl_divisor.B6 := xExit 2 (sC ⟨[], [3, 6, 7, 8], [], [], []⟩ (eCons 3 (tP (aI .i64)) (eCons 6 (tP (aSl (.i .i64))) (eCons 7 (tP (aI .i64)) (eCons 8 (tP (aI .i64)) eNil)))) bNil)
noncomputable def impl_divisor.s6 (k : Nat)  (J : Int → Int → (List Int) → Int → Int → Option impl_divisor.B6) (x3 : Int) (x5 : Int) (x6 : List Int) (x7 : Int) (x8 : Int) : Option impl_divisor.B6 :=
  if (x5 != 0) = true then (if x5 = 0 then none else (J x5 (x3.tmod x5) x6 x7 x8)) else (some ((x3, x6, x7, x8, ()), (())))
noncomputable def impl_divisor.l6 (k : Nat)  : Nat → Int → Int → (List Int) → Int → Int → Option impl_divisor.B6
  | 0, _, _, _, _, _ => none
  | n + 1, x3, x5, x6, x7, x8 => impl_divisor.s6 k (impl_divisor.l6 k n) x3 x5 x6 x7 x8
noncomputable def impl_divisor.H3 : Hd := ⟨[], [3, 6, 7, 8], [], [], []⟩
@[reducible] def impl_divisor.A3 : Type := ((Int × (List Int) × Int × Int × Unit) × (Unit))
noncomputable def impl_divisor.Z3 : SC impl_divisor.A3 := sC impl_divisor.H3 (eCons 3 (tP (aI .i64)) (eCons 6 (tP (aSl (.i .i64))) (eCons 7 (tP (aI .i64)) (eCons 8 (tP (aI .i64)) eNil)))) bNil
@[reducible] def impl_divisor.B3 : Type := ((Int × Unit) × (Unit))
noncomputable def impl_divisor.X3 : XC impl_divisor.B3 := xExit 0 (sC ⟨[], [3], [], [], []⟩ (eCons 3 (tP (aI .i64)) eNil) bNil)
noncomputable def impl_divisor.s3 (k : Nat)  (J : Int → (List Int) → Int → Int → Option impl_divisor.B3) (x3 : Int) (x6 : List Int) (x7 : Int) (x8 : Int) : Option impl_divisor.B3 :=
  if (decide (x8 < x7)) = true then (if 0 ≤ x8 then (if x8 < (x6.length : Int) then ((impl_divisor.l6 k k x3 (if (W (0 - (rd x6 x8))) > (rd x6 x8) then (W (0 - (rd x6 x8))) else (rd x6 x8)) x6 x7 x8).bind fun x1 => J x1.1.1 x1.1.2.1 x1.1.2.2.1 (W (x1.1.2.2.2.1 + 1))) else none) else none) else (some ((x3, ()), (())))
noncomputable def impl_divisor.l3 (k : Nat)  : Nat → Int → (List Int) → Int → Int → Option impl_divisor.B3
  | 0, _, _, _, _ => none
  | n + 1, x3, x6, x7, x8 => impl_divisor.s3 k (impl_divisor.l3 k n) x3 x6 x7 x8
noncomputable def impl_divisor.f (k : Nat) (a0 : List Int) : Option Int :=
  (impl_divisor.l3 k k 0 a0 (a0.length : Int) 0).bind fun x2 => some x2.1.1
noncomputable def impl_divisor.e (k : Nat) : FE := { α := (List Int) × Unit, β := Int, args := (lCons (aSl (.i .i64)) lNil), ret := (rOne (aI .i64)), f := fun p => impl_divisor.f k p.1 }
noncomputable def impl_divisor.c (k : Nat) : List (Nat × CE) := []
noncomputable def impl_divisor.bd : Code := match Tryz.f54.body with | some c => c | none => .skip
noncomputable def impl_divisor.e6 (k : Nat) : LE := { H := impl_divisor.H6, α := impl_divisor.A6, β := impl_divisor.B6, st := impl_divisor.Z6, xt := impl_divisor.X6, f := fun p => impl_divisor.l6 k k p.1.1 p.1.2.1 p.1.2.2.1 p.1.2.2.2.1 p.1.2.2.2.2.1 }
noncomputable def impl_divisor.e3 (k : Nat) : LE := { H := impl_divisor.H3, α := impl_divisor.A3, β := impl_divisor.B3, st := impl_divisor.Z3, xt := impl_divisor.X3, f := fun p => impl_divisor.l3 k k p.1.1 p.1.2.1 p.1.2.2.1 p.1.2.2.2.1 }
noncomputable def impl_divisor.g (k : Nat) : List (Nat × LE) := [(6, impl_divisor.e6 k), (3, impl_divisor.e3 k)]
theorem impl_divisor.t6 (k : Nat) (I : S2 → Option impl_divisor.B6) (x3 : Int) (x5 : Int) (x6 : List Int) (x7 : Int) (x8 : Int) : stepOf (mkCx Tryz.prog (impl_divisor.c k) (impl_divisor.g k) : Cx impl_divisor.B6) (loopAt (loopAt impl_divisor.bd 0) 0) impl_divisor.H6 impl_divisor.X6.dec I (impl_divisor.Z6.enc ((x3, x5, x6, x7, x8, ()), (()))) = impl_divisor.s6 k (fun x3 x5 x6 x7 x8 => I (impl_divisor.Z6.enc ((x3, x5, x6, x7, x8, ()), (())))) x3 x5 x6 x7 x8 := by kernel_rfl
theorem impl_divisor.i6 (k : Nat) : ∀ (n : Nat) (x3 : Int) (x5 : Int) (x6 : List Int) (x7 : Int) (x8 : Int), iter (evCode (mkCx Tryz.prog (impl_divisor.c k) (impl_divisor.g k) : Cx impl_divisor.B6) (loopAt (loopAt impl_divisor.bd 0) 0)) impl_divisor.H6 impl_divisor.X6.dec n (impl_divisor.Z6.enc ((x3, x5, x6, x7, x8, ()), (()))) = impl_divisor.l6 k n x3 x5 x6 x7 x8
  | 0, _, _, _, _, _ => rfl
  | n + 1, x3, x5, x6, x7, x8 => ((iter_step _ _ _ _ n _).trans (impl_divisor.t6 k _ x3 x5 x6 x7 x8)).trans (congrArg (fun J => impl_divisor.s6 k J x3 x5 x6 x7 x8) (funext fun x3 => funext fun x5 => funext fun x6 => funext fun x7 => funext fun x8 => impl_divisor.i6 k n x3 x5 x6 x7 x8))
theorem impl_divisor.t3 (k : Nat) (I : S2 → Option impl_divisor.B3) (x3 : Int) (x6 : List Int) (x7 : Int) (x8 : Int) : stepOf (mkCx Tryz.prog (impl_divisor.c k) (impl_divisor.g k) : Cx impl_divisor.B3) (loopAt impl_divisor.bd 0) impl_divisor.H3 impl_divisor.X3.dec I (impl_divisor.Z3.enc ((x3, x6, x7, x8, ()), (()))) = impl_divisor.s3 k (fun x3 x6 x7 x8 => I (impl_divisor.Z3.enc ((x3, x6, x7, x8, ()), (())))) x3 x6 x7 x8 := by kernel_rfl
theorem impl_divisor.i3 (k : Nat) : ∀ (n : Nat) (x3 : Int) (x6 : List Int) (x7 : Int) (x8 : Int), iter (evCode (mkCx Tryz.prog (impl_divisor.c k) (impl_divisor.g k) : Cx impl_divisor.B3) (loopAt impl_divisor.bd 0)) impl_divisor.H3 impl_divisor.X3.dec n (impl_divisor.Z3.enc ((x3, x6, x7, x8, ()), (()))) = impl_divisor.l3 k n x3 x6 x7 x8
  | 0, _, _, _, _ => rfl
  | n + 1, x3, x6, x7, x8 => ((iter_step _ _ _ _ n _).trans (impl_divisor.t3 k _ x3 x6 x7 x8)).trans (congrArg (fun J => impl_divisor.s3 k J x3 x6 x7 x8) (funext fun x3 => funext fun x6 => funext fun x7 => funext fun x8 => impl_divisor.i3 k n x3 x6 x7 x8))
theorem impl_divisor.to6 (k : Nat) (hC : AllFun Tryz.prog (impl_divisor.c k)) : LoopTo Tryz.prog 24 (impl_divisor.e6 k) (loopAt (loopAt impl_divisor.bd 0) 0) := loop_to mixed hC (by kernel_rfl) (loops_all 0 (by kernel_rfl) fun i hi => absurd hi (Nat.not_lt_zero i)) fun a b h => ⟨k, (impl_divisor.i6 k k a.1.1 a.1.2.1 a.1.2.2.1 a.1.2.2.2.1 a.1.2.2.2.2.1).trans h⟩
theorem impl_divisor.to3 (k : Nat) (hC : AllFun Tryz.prog (impl_divisor.c k)) : LoopTo Tryz.prog 24 (impl_divisor.e3 k) (loopAt impl_divisor.bd 0) := loop_to mixed hC (by kernel_rfl) (loops_all 1 (by kernel_rfl) fun i hi => by obtain rfl : i = 0 := Nat.lt_one_iff.1 hi; exact ⟨impl_divisor.e6 k, by kernel_rfl, impl_divisor.to6 k hC⟩) fun a b h => ⟨k, (impl_divisor.i3 k k a.1.1 a.1.2.1 a.1.2.2.1 a.1.2.2.2.1).trans h⟩
theorem impl_divisor.link (k : Nat) (a0 : List Int) : evFun (mkCx Tryz.prog (impl_divisor.c k) (impl_divisor.g k) : Cx Int) Tryz.f54 ((impl_divisor.e k).args.enc (a0, ())) (impl_divisor.e k).ret.dec = impl_divisor.f k a0 := by kernel_rfl
theorem impl_divisor.ok1 (k : Nat) (hC : AllFun Tryz.prog (impl_divisor.c k)) : Fun Tryz.prog 54 (impl_divisor.e k).G := fun_ok mixed (body := impl_divisor.bd) Tryz.func54 (by kernel_rfl) (by kernel_rfl) (by kernel_rfl) hC (loops_all 1 (by kernel_rfl) fun i hi => by obtain rfl : i = 0 := Nat.lt_one_iff.1 hi; exact ⟨impl_divisor.e3 k, by kernel_rfl, impl_divisor.to3 k hC⟩) (impl_divisor.e k) (fun a => Nat.le_of_ble_eq_true (by kernel_rfl)) fun a b h => (impl_divisor.link k a.1).trans h
theorem impl_divisor.ok (k : Nat) : Fun Tryz.prog 54 (impl_divisor.e k).G := impl_divisor.ok1 k trivial

noncomputable def impl_inRange.f (k : Nat) (a0 : Int) (a1 : Int) (a2 : Int) : Option Bool :=
  if (decide (a0 ≥ a1)) = true then (some (decide (a0 ≤ a2))) else (some false)
noncomputable def impl_inRange.e (k : Nat) : FE := { α := Int × Int × Int × Unit, β := Bool, args := (lCons (aI .i64) (lCons (aI .i64) (lCons (aI .i64) lNil))), ret := (rOne aB), f := fun p => impl_inRange.f k p.1 p.2.1 p.2.2.1 }
noncomputable def impl_inRange.c (k : Nat) : List (Nat × CE) := []
noncomputable def impl_inRange.bd : Code := match Tryz.f53.body with | some c => c | none => .skip
noncomputable def impl_inRange.g (k : Nat) : List (Nat × LE) := []
theorem impl_inRange.link (k : Nat) (a0 : Int) (a1 : Int) (a2 : Int) : evFun (mkCx Tryz.prog (impl_inRange.c k) (impl_inRange.g k) : Cx Bool) Tryz.f53 ((impl_inRange.e k).args.enc (a0, a1, a2, ())) (impl_inRange.e k).ret.dec = impl_inRange.f k a0 a1 a2 := by kernel_rfl
theorem impl_inRange.ok1 (k : Nat) (hC : AllFun Tryz.prog (impl_inRange.c k)) : Fun Tryz.prog 53 (impl_inRange.e k).G := fun_ok mixed (body := impl_inRange.bd) Tryz.func53 (by kernel_rfl) (by kernel_rfl) (by kernel_rfl) hC (loops_all 0 (by kernel_rfl) fun i hi => absurd hi (Nat.not_lt_zero i)) (impl_inRange.e k) (fun a => Nat.le_of_ble_eq_true (by kernel_rfl)) fun a b h => (impl_inRange.link k a.1 a.2.1 a.2.2.1).trans h
theorem impl_inRange.ok (k : Nat) : Fun Tryz.prog 53 (impl_inRange.e k).G := impl_inRange.ok1 k trivial

noncomputable def impl_isCoef.f (k : Nat) (a0 : Int) : Option Bool :=
  (impl_inRange.f k  a0 (-500) 500).bind fun t1 => some t1
noncomputable def impl_isCoef.e (k : Nat) : FE := { α := Int × Unit, β := Bool, args := (lCons (aI .i64) lNil), ret := (rOne aB), f := fun p => impl_isCoef.f k p.1 }
noncomputable def impl_isCoef.c (k : Nat) : List (Nat × CE) := [(53, .fn (impl_inRange.e k))]
noncomputable def impl_isCoef.bd : Code := match Tryz.f95.body with | some c => c | none => .skip
noncomputable def impl_isCoef.g (k : Nat) : List (Nat × LE) := []
theorem impl_isCoef.link (k : Nat) (a0 : Int) : evFun (mkCx Tryz.prog (impl_isCoef.c k) (impl_isCoef.g k) : Cx Bool) Tryz.f95 ((impl_isCoef.e k).args.enc (a0, ())) (impl_isCoef.e k).ret.dec = impl_isCoef.f k a0 := by kernel_rfl
theorem impl_isCoef.ok1 (k : Nat) (hC : AllFun Tryz.prog (impl_isCoef.c k)) : Fun Tryz.prog 95 (impl_isCoef.e k).G := fun_ok mixed (body := impl_isCoef.bd) Tryz.func95 (by kernel_rfl) (by kernel_rfl) (by kernel_rfl) hC (loops_all 0 (by kernel_rfl) fun i hi => absurd hi (Nat.not_lt_zero i)) (impl_isCoef.e k) (fun a => Nat.le_of_ble_eq_true (by kernel_rfl)) fun a b h => (impl_isCoef.link k a.1).trans h
theorem impl_isCoef.ok (k : Nat) : Fun Tryz.prog 95 (impl_isCoef.e k).G := impl_isCoef.ok1 k ⟨impl_inRange.ok k, trivial⟩

noncomputable def impl_PlaneOk.f (k : Nat) (a0 : S4) : Option Bool :=
  (impl_isCoef.f k  a0.a).bind fun t1 => if (!t1) = true then (some false) else ((impl_isCoef.f k  a0.b).bind fun t2 => if (!t2) = true then (some false) else ((impl_isCoef.f k  a0.c).bind fun t3 => if (!t3) = true then (some false) else ((impl_isCoef.f k  a0.d).bind fun t4 => if (!t4) = true then (some false) else (if (a0.a != 0) = true then ((impl_divisor.f k  ([a0.a, a0.b, a0.c, a0.d] : List Int)).bind fun t5 => some (t5 == 1)) else (if (a0.b != 0) = true then ((impl_divisor.f k  ([a0.a, a0.b, a0.c, a0.d] : List Int)).bind fun t6 => some (t6 == 1)) else (if (a0.c != 0) = true then ((impl_divisor.f k  ([a0.a, a0.b, a0.c, a0.d] : List Int)).bind fun t7 => some (t7 == 1)) else (some false)))))))
noncomputable def impl_PlaneOk.e (k : Nat) : FE := { α := S4 × Unit, β := Bool, args := (lCons aS4 lNil), ret := (rOne aB), f := fun p => impl_PlaneOk.f k p.1 }
noncomputable def impl_PlaneOk.c (k : Nat) : List (Nat × CE) := [(95, .fn (impl_isCoef.e k)), (54, .fn (impl_divisor.e k))]
noncomputable def impl_PlaneOk.bd : Code := match Tryz.f75.body with | some c => c | none => .skip
noncomputable def impl_PlaneOk.g (k : Nat) : List (Nat × LE) := []
theorem impl_PlaneOk.link (k : Nat) (a0 : S4) : evFun (mkCx Tryz.prog (impl_PlaneOk.c k) (impl_PlaneOk.g k) : Cx Bool) Tryz.f75 ((impl_PlaneOk.e k).args.enc (a0, ())) (impl_PlaneOk.e k).ret.dec = impl_PlaneOk.f k a0 := by kernel_rfl
theorem impl_PlaneOk.ok1 (k : Nat) (hC : AllFun Tryz.prog (impl_PlaneOk.c k)) : Fun Tryz.prog 75 (impl_PlaneOk.e k).G := fun_ok mixed (body := impl_PlaneOk.bd) Tryz.func75 (by kernel_rfl) (by kernel_rfl) (by kernel_rfl) hC (loops_all 0 (by kernel_rfl) fun i hi => absurd hi (Nat.not_lt_zero i)) (impl_PlaneOk.e k) (fun a => Nat.le_of_ble_eq_true (by kernel_rfl)) fun a b h => (impl_PlaneOk.link k a.1).trans h
theorem impl_PlaneOk.ok (k : Nat) : Fun Tryz.prog 75 (impl_PlaneOk.e k).G := impl_PlaneOk.ok1 k ⟨impl_isCoef.ok k, impl_divisor.ok k, trivial⟩

noncomputable def impl_planesOk.H2 : Hd := ⟨[], [5, 6, 7], [], [], []⟩
@[reducible] def impl_planesOk.A2 : Type := (((List S4) × Int × Int × Unit) × (Unit))
noncomputable def impl_planesOk.Z2 : SC impl_planesOk.A2 := sC impl_planesOk.H2 (eCons 5 (tP (aSl .s4)) (eCons 6 (tP (aI .i64)) (eCons 7 (tP (aI .i64)) eNil))) bNil
@[reducible] def impl_planesOk.B2 : Type := ((Bool × Unit) × (Unit)) ⊕ ((Unit) × (Unit))
noncomputable def impl_planesOk.X2 : XC impl_planesOk.B2 := xOr (xRet (sC ⟨[], [2], [], [], []⟩ (eCons 2 (tP aB) eNil) bNil)) (xExit 0 (sC ⟨[], [], [], [], []⟩ eNil bNil))
noncomputable def impl_planesOk.s2 (k : Nat)  (J : (List S4) → Int → Int → Option impl_planesOk.B2) (x5 : List S4) (x6 : Int) (x7 : Int) : Option impl_planesOk.B2 :=
  if (decide (x7 < x6)) = true then (if 0 ≤ x7 then (if x7 < (x5.length : Int) then ((impl_PlaneOk.f k  (rd x5 x7)).bind fun t1 => if (!t1) = true then (some (.inl ((false, ()), (())))) else (J x5 x6 (W (x7 + 1)))) else none) else none) else (some (.inr ((()), (()))))
noncomputable def impl_planesOk.l2 (k : Nat)  : Nat → (List S4) → Int → Int → Option impl_planesOk.B2
  | 0, _, _, _ => none
  | n + 1, x5, x6, x7 => impl_planesOk.s2 k (impl_planesOk.l2 k n) x5 x6 x7
noncomputable def impl_planesOk.f (k : Nat) (a0 : List S4) : Option Bool :=
  (impl_planesOk.l2 k k a0 (a0.length : Int) 0).bind fun | .inl r2 => (some r2.1.1) | .inr x3 => (some true)
noncomputable def impl_planesOk.e (k : Nat) : FE := { α := (List S4) × Unit, β := Bool, args := (lCons (aSl .s4) lNil), ret := (rOne aB), f := fun p => impl_planesOk.f k p.1 }
noncomputable def impl_planesOk.c (k : Nat) : List (Nat × CE) := [(75, .fn (impl_PlaneOk.e k))]
noncomputable def impl_planesOk.bd : Code := match Tryz.f38.body with | some c => c | none => .skip
noncomputable def impl_planesOk.e2 (k : Nat) : LE := { H := impl_planesOk.H2, α := impl_planesOk.A2, β := impl_planesOk.B2, st := impl_planesOk.Z2, xt := impl_planesOk.X2, f := fun p => impl_planesOk.l2 k k p.1.1 p.1.2.1 p.1.2.2.1 }
noncomputable def impl_planesOk.g (k : Nat) : List (Nat × LE) := [(2, impl_planesOk.e2 k)]
theorem impl_planesOk.t2 (k : Nat) (I : S2 → Option impl_planesOk.B2) (x5 : List S4) (x6 : Int) (x7 : Int) : stepOf (mkCx Tryz.prog (impl_planesOk.c k) (impl_planesOk.g k) : Cx impl_planesOk.B2) (loopAt impl_planesOk.bd 0) impl_planesOk.H2 impl_planesOk.X2.dec I (impl_planesOk.Z2.enc ((x5, x6, x7, ()), (()))) = impl_planesOk.s2 k (fun x5 x6 x7 => I (impl_planesOk.Z2.enc ((x5, x6, x7, ()), (())))) x5 x6 x7 := by kernel_rfl
theorem impl_planesOk.i2 (k : Nat) : ∀ (n : Nat) (x5 : List S4) (x6 : Int) (x7 : Int), iter (evCode (mkCx Tryz.prog (impl_planesOk.c k) (impl_planesOk.g k) : Cx impl_planesOk.B2) (loopAt impl_planesOk.bd 0)) impl_planesOk.H2 impl_planesOk.X2.dec n (impl_planesOk.Z2.enc ((x5, x6, x7, ()), (()))) = impl_planesOk.l2 k n x5 x6 x7
  | 0, _, _, _ => rfl
  | n + 1, x5, x6, x7 => ((iter_step _ _ _ _ n _).trans (impl_planesOk.t2 k _ x5 x6 x7)).trans (congrArg (fun J => impl_planesOk.s2 k J x5 x6 x7) (funext fun x5 => funext fun x6 => funext fun x7 => impl_planesOk.i2 k n x5 x6 x7))
theorem impl_planesOk.to2 (k : Nat) (hC : AllFun Tryz.prog (impl_planesOk.c k)) : LoopTo Tryz.prog 15 (impl_planesOk.e2 k) (loopAt impl_planesOk.bd 0) := loop_to mixed hC (by kernel_rfl) (loops_all 0 (by kernel_rfl) fun i hi => absurd hi (Nat.not_lt_zero i)) fun a b h => ⟨k, (impl_planesOk.i2 k k a.1.1 a.1.2.1 a.1.2.2.1).trans h⟩
theorem impl_planesOk.link (k : Nat) (a0 : List S4) : evFun (mkCx Tryz.prog (impl_planesOk.c k) (impl_planesOk.g k) : Cx Bool) Tryz.f38 ((impl_planesOk.e k).args.enc (a0, ())) (impl_planesOk.e k).ret.dec = impl_planesOk.f k a0 := by kernel_rfl
theorem impl_planesOk.ok1 (k : Nat) (hC : AllFun Tryz.prog (impl_planesOk.c k)) : Fun Tryz.prog 38 (impl_planesOk.e k).G := fun_ok mixed (body := impl_planesOk.bd) Tryz.func38 (by kernel_rfl) (by kernel_rfl) (by kernel_rfl) hC (loops_all 1 (by kernel_rfl) fun i hi => by obtain rfl : i = 0 := Nat.lt_one_iff.1 hi; exact ⟨impl_planesOk.e2 k, by kernel_rfl, impl_planesOk.to2 k hC⟩) (impl_planesOk.e k) (fun a => Nat.le_of_ble_eq_true (by kernel_rfl)) fun a b h => (impl_planesOk.link k a.1).trans h
theorem impl_planesOk.ok (k : Nat) : Fun Tryz.prog 38 (impl_planesOk.e k).G := impl_planesOk.ok1 k ⟨impl_PlaneOk.ok k, trivial⟩

noncomputable def impl_normal.f (k : Nat) (a0 : S4) : Option S3 :=
  some (⟨a0.a, a0.b, a0.c⟩ : S3)
noncomputable def impl_normal.e (k : Nat) : FE := { α := S4 × Unit, β := S3, args := (lCons aS4 lNil), ret := (rOne aS3), f := fun p => impl_normal.f k p.1 }
noncomputable def impl_normal.c (k : Nat) : List (Nat × CE) := []
noncomputable def impl_normal.bd : Code := match Tryz.f58.body with | some c => c | none => .skip
noncomputable def impl_normal.g (k : Nat) : List (Nat × LE) := []
theorem impl_normal.link (k : Nat) (a0 : S4) : evFun (mkCx Tryz.prog (impl_normal.c k) (impl_normal.g k) : Cx S3) Tryz.f58 ((impl_normal.e k).args.enc (a0, ())) (impl_normal.e k).ret.dec = impl_normal.f k a0 := by kernel_rfl
theorem impl_normal.ok1 (k : Nat) (hC : AllFun Tryz.prog (impl_normal.c k)) : Fun Tryz.prog 58 (impl_normal.e k).G := fun_ok mixed (body := impl_normal.bd) Tryz.func58 (by kernel_rfl) (by kernel_rfl) (by kernel_rfl) hC (loops_all 0 (by kernel_rfl) fun i hi => absurd hi (Nat.not_lt_zero i)) (impl_normal.e k) (fun a => Nat.le_of_ble_eq_true (by kernel_rfl)) fun a b h => (impl_normal.link k a.1).trans h
theorem impl_normal.ok (k : Nat) : Fun Tryz.prog 58 (impl_normal.e k).G := impl_normal.ok1 k trivial

noncomputable def impl_crossOf.f (k : Nat) (a0 : S3) (a1 : S3) : Option S3 :=
  some (⟨(W ((W (a0.y * a1.z)) - (W (a0.z * a1.y)))), (W ((W (a0.z * a1.x)) - (W (a0.x * a1.z)))), (W ((W (a0.x * a1.y)) - (W (a0.y * a1.x))))⟩ : S3)
noncomputable def impl_crossOf.e (k : Nat) : FE := { α := S3 × S3 × Unit, β := S3, args := (lCons aS3 (lCons aS3 lNil)), ret := (rOne aS3), f := fun p => impl_crossOf.f k p.1 p.2.1 }
noncomputable def impl_crossOf.c (k : Nat) : List (Nat × CE) := []
noncomputable def impl_crossOf.bd : Code := match Tryz.f57.body with | some c => c | none => .skip
noncomputable def impl_crossOf.g (k : Nat) : List (Nat × LE) := []
theorem impl_crossOf.link (k : Nat) (a0 : S3) (a1 : S3) : evFun (mkCx Tryz.prog (impl_crossOf.c k) (impl_crossOf.g k) : Cx S3) Tryz.f57 ((impl_crossOf.e k).args.enc (a0, a1, ())) (impl_crossOf.e k).ret.dec = impl_crossOf.f k a0 a1 := by kernel_rfl
theorem impl_crossOf.ok1 (k : Nat) (hC : AllFun Tryz.prog (impl_crossOf.c k)) : Fun Tryz.prog 57 (impl_crossOf.e k).G := fun_ok mixed (body := impl_crossOf.bd) Tryz.func57 (by kernel_rfl) (by kernel_rfl) (by kernel_rfl) hC (loops_all 0 (by kernel_rfl) fun i hi => absurd hi (Nat.not_lt_zero i)) (impl_crossOf.e k) (fun a => Nat.le_of_ble_eq_true (by kernel_rfl)) fun a b h => (impl_crossOf.link k a.1 a.2.1).trans h
theorem impl_crossOf.ok (k : Nat) : Fun Tryz.prog 57 (impl_crossOf.e k).G := impl_crossOf.ok1 k trivial

noncomputable def impl_sign.f (k : Nat) (a0 : Int) : Option Int :=
  (cmp_Compare_int.f k  a0 0).bind fun t1 => some t1
noncomputable def impl_sign.e (k : Nat) : FE := { α := Int × Unit, β := Int, args := (lCons (aI .i64) lNil), ret := (rOne (aI .i64)), f := fun p => impl_sign.f k p.1 }
noncomputable def impl_sign.c (k : Nat) : List (Nat × CE) := [(90, .fn (cmp_Compare_int.e k))]
noncomputable def impl_sign.bd : Code := match Tryz.f82.body with | some c => c | none => .skip
noncomputable def impl_sign.g (k : Nat) : List (Nat × LE) := []
theorem impl_sign.link (k : Nat) (a0 : Int) : evFun (mkCx Tryz.prog (impl_sign.c k) (impl_sign.g k) : Cx Int) Tryz.f82 ((impl_sign.e k).args.enc (a0, ())) (impl_sign.e k).ret.dec = impl_sign.f k a0 := by kernel_rfl
theorem impl_sign.ok1 (k : Nat) (hC : AllFun Tryz.prog (impl_sign.c k)) : Fun Tryz.prog 82 (impl_sign.e k).G := fun_ok mixed (body := impl_sign.bd) Tryz.func82 (by kernel_rfl) (by kernel_rfl) (by kernel_rfl) hC (loops_all 0 (by kernel_rfl) fun i hi => absurd hi (Nat.not_lt_zero i)) (impl_sign.e k) (fun a => Nat.le_of_ble_eq_true (by kernel_rfl)) fun a b h => (impl_sign.link k a.1).trans h
theorem impl_sign.ok (k : Nat) : Fun Tryz.prog 82 (impl_sign.e k).G := impl_sign.ok1 k ⟨cmp_Compare_int.ok k, trivial⟩

noncomputable def impl_dot.f (k : Nat) (a0 : S3) (a1 : S3) : Option Int :=
  some (W ((W ((W (a0.x * a1.x)) + (W (a0.y * a1.y)))) + (W (a0.z * a1.z))))
noncomputable def impl_dot.e (k : Nat) : FE := { α := S3 × S3 × Unit, β := Int, args := (lCons aS3 (lCons aS3 lNil)), ret := (rOne (aI .i64)), f := fun p => impl_dot.f k p.1 p.2.1 }
noncomputable def impl_dot.c (k : Nat) : List (Nat × CE) := []
noncomputable def impl_dot.bd : Code := match Tryz.f85.body with | some c => c | none => .skip
noncomputable def impl_dot.g (k : Nat) : List (Nat × LE) := []
theorem impl_dot.link (k : Nat) (a0 : S3) (a1 : S3) : evFun (mkCx Tryz.prog (impl_dot.c k) (impl_dot.g k) : Cx Int) Tryz.f85 ((impl_dot.e k).args.enc (a0, a1, ())) (impl_dot.e k).ret.dec = impl_dot.f k a0 a1 := by kernel_rfl
theorem impl_dot.ok1 (k : Nat) (hC : AllFun Tryz.prog (impl_dot.c k)) : Fun Tryz.prog 85 (impl_dot.e k).G := fun_ok mixed (body := impl_dot.bd) Tryz.func85 (by kernel_rfl) (by kernel_rfl) (by kernel_rfl) hC (loops_all 0 (by kernel_rfl) fun i hi => absurd hi (Nat.not_lt_zero i)) (impl_dot.e k) (fun a => Nat.le_of_ble_eq_true (by kernel_rfl)) fun a b h => (impl_dot.link k a.1 a.2.1).trans h
theorem impl_dot.ok (k : Nat) : Fun Tryz.prog 85 (impl_dot.e k).G := impl_dot.ok1 k trivial

noncomputable def impl_parallel.f (k : Nat) (a0 : S4) (a1 : S4) : Option Int :=
  (impl_normal.f k  a0).bind fun t1 => (impl_normal.f k  a1).bind fun t2 => (impl_crossOf.f k  t1 t2).bind fun t3 => if (!((t3.x == 0) && ((t3.y == 0) && (t3.z == 0)))) = true then (some 0) else ((impl_normal.f k  a0).bind fun t4 => (impl_normal.f k  a1).bind fun t5 => (impl_dot.f k  t4 t5).bind fun t6 => (impl_sign.f k  t6).bind fun t7 => some t7)
noncomputable def impl_parallel.e (k : Nat) : FE := { α := S4 × S4 × Unit, β := Int, args := (lCons aS4 (lCons aS4 lNil)), ret := (rOne (aI .i64)), f := fun p => impl_parallel.f k p.1 p.2.1 }
noncomputable def impl_parallel.c (k : Nat) : List (Nat × CE) := [(58, .fn (impl_normal.e k)), (57, .fn (impl_crossOf.e k)), (85, .fn (impl_dot.e k)), (82, .fn (impl_sign.e k))]
noncomputable def impl_parallel.bd : Code := match Tryz.f96.body with | some c => c | none => .skip
noncomputable def impl_parallel.g (k : Nat) : List (Nat × LE) := []
theorem impl_parallel.link (k : Nat) (a0 : S4) (a1 : S4) : evFun (mkCx Tryz.prog (impl_parallel.c k) (impl_parallel.g k) : Cx Int) Tryz.f96 ((impl_parallel.e k).args.enc (a0, a1, ())) (impl_parallel.e k).ret.dec = impl_parallel.f k a0 a1 := by kernel_rfl
theorem impl_parallel.ok1 (k : Nat) (hC : AllFun Tryz.prog (impl_parallel.c k)) : Fun Tryz.prog 96 (impl_parallel.e k).G := fun_ok mixed (body := impl_parallel.bd) Tryz.func96 (by kernel_rfl) (by kernel_rfl) (by kernel_rfl) hC (loops_all 0 (by kernel_rfl) fun i hi => absurd hi (Nat.not_lt_zero i)) (impl_parallel.e k) (fun a => Nat.le_of_ble_eq_true (by kernel_rfl)) fun a b h => (impl_parallel.link k a.1 a.2.1).trans h
theorem impl_parallel.ok (k : Nat) : Fun Tryz.prog 96 (impl_parallel.e k).G := impl_parallel.ok1 k ⟨impl_normal.ok k, impl_crossOf.ok k, impl_dot.ok k, impl_sign.ok k, trivial⟩

end Go.Proofs.YtalkkenkeilmpaaGreat.G
