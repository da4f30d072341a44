/- Go functions told as plain Lean functions; that the code does what these tell. Printed by a program of the session (evp.py). -/
import Derived.Test.YtalkkenkeilmpaaEv16
import Derived.Test.YtalkkenkeilmpaaG1
namespace Go.Proofs.Ytalkkenkeilmpaa.G
open Go Go.RowKit Go.Proofs Go.Proofs.Ytalkkenkeilmpaa.Ev
set_option linter.unusedVariables false
set_option maxRecDepth 100000

noncomputable def impl_weighs.H4 : Hd := ⟨[], [1, 5, 6, 13, 14, 15], [], [], []⟩
@[reducible] def impl_weighs.A4 : Type := (((List Int) × Int × Int × (List Int) × Int × Int × Unit) × (Unit))
noncomputable def impl_weighs.Z4 : SC impl_weighs.A4 := sC impl_weighs.H4 (eCons 1 (tP (aSl (.i .i64))) (eCons 5 (tP (aI .i64)) (eCons 6 (tP (aI .i64)) (eCons 13 (tP (aSl (.i .i64))) (eCons 14 (tP (aI .i64)) (eCons 15 (tP (aI .i64)) eNil)))))) bNil
@[reducible] def impl_weighs.B4 : Type := ((Bool × Unit) × (Unit)) ⊕ ((Int × Int × Unit) × (Unit))
noncomputable def impl_weighs.X4 : XC impl_weighs.B4 := xOr (xRet (sC ⟨[], [4], [], [], []⟩ (eCons 4 (tP aB) eNil) bNil)) (xExit 0 (sC ⟨[], [5, 6], [], [], []⟩ (eCons 5 (tP (aI .i64)) (eCons 6 (tP (aI .i64)) eNil)) bNil))
noncomputable def impl_weighs.s4 (k : Nat)  (J : (List Int) → Int → Int → (List Int) → Int → Int → Option impl_weighs.B4) (x1 : List Int) (x5 : Int) (x6 : Int) (x13 : List Int) (x14 : Int) (x15 : Int) : Option impl_weighs.B4 :=
  if (decide (x15 < x14)) = true then (if 0 ≤ x15 then (if x15 < (x13.length : Int) then (if (x5 == 0) = true then (some (.inl ((false, ()), (())))) else ((impl_sign.f k  (rd x13 x15)).bind fun t2 => if (t2 != x5) = true then (some (.inl ((false, ()), (())))) else (if 0 ≤ x15 then (if x15 < (x1.length : Int) then (J x1 x5 (W (x6 + (W ((rd x13 x15) * (rd x1 x15))))) x13 x14 (W (x15 + 1))) else none) else none))) else none) else none) else (some (.inr ((x5, x6, ()), (()))))
noncomputable def impl_weighs.l4 (k : Nat)  : Nat → (List Int) → Int → Int → (List Int) → Int → Int → Option impl_weighs.B4
  | 0, _, _, _, _, _, _ => none
  | n + 1, x1, x5, x6, x13, x14, x15 => impl_weighs.s4 k (impl_weighs.l4 k n) x1 x5 x6 x13 x14 x15
noncomputable def impl_weighs.f (k : Nat) (a0 : List Int) (a1 : List Int) : Option Bool :=
  if 0 ≤ 0 then (if 0 < (a0.length : Int) then ((impl_sign.f k  (rd a0 0)).bind fun t1 => (impl_weighs.l4 k k a1 t1 0 a0 (a0.length : Int) 0).bind fun | .inl r3 => (some r3.1.1) | .inr x4 => (some (decide ((W (x4.1.2.1 * x4.1.1)) ≤ 0)))) else none) else none
noncomputable def impl_weighs.e (k : Nat) : FE := { α := (List Int) × (List Int) × Unit, β := Bool, args := (lCons (aSl (.i .i64)) (lCons (aSl (.i .i64)) lNil)), ret := (rOne aB), f := fun p => impl_weighs.f k p.1 p.2.1 }
noncomputable def impl_weighs.c (k : Nat) : List (Nat × CE) := [(65, .fn (impl_sign.e k))]
noncomputable def impl_weighs.bd : Code := match Try.f61.body with | some c => c | none => .skip
noncomputable def impl_weighs.e4 (k : Nat) : LE := { H := impl_weighs.H4, α := impl_weighs.A4, β := impl_weighs.B4, st := impl_weighs.Z4, xt := impl_weighs.X4, f := fun p => impl_weighs.l4 k k p.1.1 p.1.2.1 p.1.2.2.1 p.1.2.2.2.1 p.1.2.2.2.2.1 p.1.2.2.2.2.2.1 }
noncomputable def impl_weighs.g (k : Nat) : List (Nat × LE) := [(4, impl_weighs.e4 k)]
theorem impl_weighs.t4 (k : Nat) (I : S2 → Option impl_weighs.B4) (x1 : List Int) (x5 : Int) (x6 : Int) (x13 : List Int) (x14 : Int) (x15 : Int) : stepOf (mkCx Try.prog (impl_weighs.c k) (impl_weighs.g k) : Cx impl_weighs.B4) (loopAt impl_weighs.bd 0) impl_weighs.H4 impl_weighs.X4.dec I (impl_weighs.Z4.enc ((x1, x5, x6, x13, x14, x15, ()), (()))) = impl_weighs.s4 k (fun x1 x5 x6 x13 x14 x15 => I (impl_weighs.Z4.enc ((x1, x5, x6, x13, x14, x15, ()), (())))) x1 x5 x6 x13 x14 x15 := by kernel_rfl
theorem impl_weighs.i4 (k : Nat) : ∀ (n : Nat) (x1 : List Int) (x5 : Int) (x6 : Int) (x13 : List Int) (x14 : Int) (x15 : Int), iter (evCode (mkCx Try.prog (impl_weighs.c k) (impl_weighs.g k) : Cx impl_weighs.B4) (loopAt impl_weighs.bd 0)) impl_weighs.H4 impl_weighs.X4.dec n (impl_weighs.Z4.enc ((x1, x5, x6, x13, x14, x15, ()), (()))) = impl_weighs.l4 k n x1 x5 x6 x13 x14 x15
  | 0, _, _, _, _, _, _ => rfl
  | n + 1, x1, x5, x6, x13, x14, x15 => ((iter_step _ _ _ _ n _).trans (impl_weighs.t4 k _ x1 x5 x6 x13 x14 x15)).trans (congrArg (fun J => impl_weighs.s4 k J x1 x5 x6 x13 x14 x15) (funext fun x1 => funext fun x5 => funext fun x6 => funext fun x13 => funext fun x14 => funext fun x15 => impl_weighs.i4 k n x1 x5 x6 x13 x14 x15))
theorem impl_weighs.to4 (k : Nat) (hC : AllFun Try.prog (impl_weighs.c k)) : LoopTo Try.prog 41 (impl_weighs.e4 k) (loopAt impl_weighs.bd 0) := loop_to mixed hC (by kernel_rfl) (loops_all 0 (by kernel_rfl) fun i hi => absurd hi (Nat.not_lt_zero i)) fun a b h => ⟨k, (impl_weighs.i4 k k a.1.1 a.1.2.1 a.1.2.2.1 a.1.2.2.2.1 a.1.2.2.2.2.1 a.1.2.2.2.2.2.1).trans h⟩
theorem impl_weighs.link (k : Nat) (a0 : List Int) (a1 : List Int) : evFun (mkCx Try.prog (impl_weighs.c k) (impl_weighs.g k) : Cx Bool) Try.f61 ((impl_weighs.e k).args.enc (a0, a1, ())) (impl_weighs.e k).ret.dec = impl_weighs.f k a0 a1 := by kernel_rfl
theorem impl_weighs.ok1 (k : Nat) (hC : AllFun Try.prog (impl_weighs.c k)) : Fun Try.prog 61 (impl_weighs.e k).G := fun_ok mixed (body := impl_weighs.bd) Try.func61 (by kernel_rfl) (by kernel_rfl) (by kernel_rfl) hC (loops_all 1 (by kernel_rfl) fun i hi => by obtain rfl : i = 0 := Nat.lt_one_iff.1 hi; exact ⟨impl_weighs.e4 k, by kernel_rfl, impl_weighs.to4 k hC⟩) (impl_weighs.e k) (fun a => Nat.le_of_ble_eq_true (by kernel_rfl)) fun a b h => (impl_weighs.link k a.1 a.2.1).trans h
theorem impl_weighs.ok (k : Nat) : Fun Try.prog 61 (impl_weighs.e k).G := impl_weighs.ok1 k ⟨impl_sign.ok k, trivial⟩

noncomputable def impl_clash3.f (k : Nat) (a0 : S4) (a1 : S4) (a2 : S4) : Option Bool :=
  (impl_normal.f k  a0).bind fun t1 => (impl_normal.f k  a1).bind fun t2 => (impl_normal.f k  a2).bind fun t3 => (impl_det.f k  t1 t2 t3).bind fun t4 => if (t4 != 0) = true then (some false) else ((impl_crossOf.f k  t1 t2).bind fun t5 => (impl_crossOf.f k  t2 t3).bind fun t6 => (impl_dot.f k  t6 t5).bind fun t7 => (impl_crossOf.f k  t3 t1).bind fun t8 => (impl_dot.f k  t8 t5).bind fun t9 => (impl_dot.f k  t5 t5).bind fun t10 => (impl_weighs.f k  ([t7, t9, t10] : List Int) ([a0.d, a1.d, a2.d] : List Int)).bind fun t11 => some t11)
noncomputable def impl_clash3.e (k : Nat) : FE := { α := S4 × S4 × S4 × Unit, β := Bool, args := (lCons aS4 (lCons aS4 (lCons aS4 lNil))), ret := (rOne aB), f := fun p => impl_clash3.f k p.1 p.2.1 p.2.2.1 }
noncomputable def impl_clash3.c (k : Nat) : List (Nat × CE) := [(58, .fn (impl_normal.e k)), (59, .fn (impl_det.e k)), (60, .fn (impl_crossOf.e k)), (62, .fn (impl_dot.e k)), (61, .fn (impl_weighs.e k))]
noncomputable def impl_clash3.bd : Code := match Try.f48.body with | some c => c | none => .skip
noncomputable def impl_clash3.g (k : Nat) : List (Nat × LE) := []
theorem impl_clash3.link (k : Nat) (a0 : S4) (a1 : S4) (a2 : S4) : evFun (mkCx Try.prog (impl_clash3.c k) (impl_clash3.g k) : Cx Bool) Try.f48 ((impl_clash3.e k).args.enc (a0, a1, a2, ())) (impl_clash3.e k).ret.dec = impl_clash3.f k a0 a1 a2 := by kernel_rfl
theorem impl_clash3.ok1 (k : Nat) (hC : AllFun Try.prog (impl_clash3.c k)) : Fun Try.prog 48 (impl_clash3.e k).G := fun_ok mixed (body := impl_clash3.bd) Try.func48 (by kernel_rfl) (by kernel_rfl) (by kernel_rfl) hC (loops_all 0 (by kernel_rfl) fun i hi => absurd hi (Nat.not_lt_zero i)) (impl_clash3.e k) (fun a => Nat.le_of_ble_eq_true (by kernel_rfl)) fun a b h => (impl_clash3.link k a.1 a.2.1 a.2.2.1).trans h
theorem impl_clash3.ok (k : Nat) : Fun Try.prog 48 (impl_clash3.e k).G := impl_clash3.ok1 k ⟨impl_normal.ok k, impl_det.ok k, impl_crossOf.ok k, impl_dot.ok k, impl_weighs.ok k, trivial⟩

noncomputable def impl_det3.f (k : Nat) (a0 : S4) (a1 : S4) (a2 : S4) : Option Int :=
  (impl_normal.f k  a0).bind fun t1 => (impl_normal.f k  a1).bind fun t2 => (impl_normal.f k  a2).bind fun t3 => (impl_det.f k  t1 t2 t3).bind fun t4 => some t4
noncomputable def impl_det3.e (k : Nat) : FE := { α := S4 × S4 × S4 × Unit, β := Int, args := (lCons aS4 (lCons aS4 (lCons aS4 lNil))), ret := (rOne (aI .i64)), f := fun p => impl_det3.f k p.1 p.2.1 p.2.2.1 }
noncomputable def impl_det3.c (k : Nat) : List (Nat × CE) := [(58, .fn (impl_normal.e k)), (59, .fn (impl_det.e k))]
noncomputable def impl_det3.bd : Code := match Try.f63.body with | some c => c | none => .skip
noncomputable def impl_det3.g (k : Nat) : List (Nat × LE) := []
theorem impl_det3.link (k : Nat) (a0 : S4) (a1 : S4) (a2 : S4) : evFun (mkCx Try.prog (impl_det3.c k) (impl_det3.g k) : Cx Int) Try.f63 ((impl_det3.e k).args.enc (a0, a1, a2, ())) (impl_det3.e k).ret.dec = impl_det3.f k a0 a1 a2 := by kernel_rfl
theorem impl_det3.ok1 (k : Nat) (hC : AllFun Try.prog (impl_det3.c k)) : Fun Try.prog 63 (impl_det3.e k).G := fun_ok mixed (body := impl_det3.bd) Try.func63 (by kernel_rfl) (by kernel_rfl) (by kernel_rfl) hC (loops_all 0 (by kernel_rfl) fun i hi => absurd hi (Nat.not_lt_zero i)) (impl_det3.e k) (fun a => Nat.le_of_ble_eq_true (by kernel_rfl)) fun a b h => (impl_det3.link k a.1 a.2.1 a.2.2.1).trans h
theorem impl_det3.ok (k : Nat) : Fun Try.prog 63 (impl_det3.e k).G := impl_det3.ok1 k ⟨impl_normal.ok k, impl_det.ok k, trivial⟩

noncomputable def impl_clash4.f (k : Nat) (a0 : S4) (a1 : S4) (a2 : S4) (a3 : S4) : Option Bool :=
  (impl_det3.f k  a1 a2 a3).bind fun t1 => (impl_det3.f k  a0 a2 a3).bind fun t2 => (impl_det3.f k  a0 a1 a3).bind fun t3 => (impl_det3.f k  a0 a1 a2).bind fun t4 => (impl_weighs.f k  ([t1, (W (0 - t2)), t3, (W (0 - t4))] : List Int) ([a0.d, a1.d, a2.d, a3.d] : List Int)).bind fun t5 => some t5
noncomputable def impl_clash4.e (k : Nat) : FE := { α := S4 × S4 × S4 × S4 × Unit, β := Bool, args := (lCons aS4 (lCons aS4 (lCons aS4 (lCons aS4 lNil)))), ret := (rOne aB), f := fun p => impl_clash4.f k p.1 p.2.1 p.2.2.1 p.2.2.2.1 }
noncomputable def impl_clash4.c (k : Nat) : List (Nat × CE) := [(63, .fn (impl_det3.e k)), (61, .fn (impl_weighs.e k))]
noncomputable def impl_clash4.bd : Code := match Try.f49.body with | some c => c | none => .skip
noncomputable def impl_clash4.g (k : Nat) : List (Nat × LE) := []
theorem impl_clash4.link (k : Nat) (a0 : S4) (a1 : S4) (a2 : S4) (a3 : S4) : evFun (mkCx Try.prog (impl_clash4.c k) (impl_clash4.g k) : Cx Bool) Try.f49 ((impl_clash4.e k).args.enc (a0, a1, a2, a3, ())) (impl_clash4.e k).ret.dec = impl_clash4.f k a0 a1 a2 a3 := by kernel_rfl
theorem impl_clash4.ok1 (k : Nat) (hC : AllFun Try.prog (impl_clash4.c k)) : Fun Try.prog 49 (impl_clash4.e k).G := fun_ok mixed (body := impl_clash4.bd) Try.func49 (by kernel_rfl) (by kernel_rfl) (by kernel_rfl) hC (loops_all 0 (by kernel_rfl) fun i hi => absurd hi (Nat.not_lt_zero i)) (impl_clash4.e k) (fun a => Nat.le_of_ble_eq_true (by kernel_rfl)) fun a b h => (impl_clash4.link k a.1 a.2.1 a.2.2.1 a.2.2.2.1).trans h
theorem impl_clash4.ok (k : Nat) : Fun Try.prog 49 (impl_clash4.e k).G := impl_clash4.ok1 k ⟨impl_det3.ok k, impl_weighs.ok k, trivial⟩

noncomputable def impl_room.H12 : Hd := ⟨[], [0, 3, 6, 8, 11, 12, 13, 23, 24, 25, 36, 37, 38], [3, 6, 8], [], []⟩
@[reducible] def impl_room.A12 : Type := (((List S4) × Unit × Unit × Unit × (List S4) × Int × Int × (List S4) × Int × Int × (List S4) × Int × Int × Unit) × (S4 × S4 × S4 × Unit))
noncomputable def impl_room.Z12 : SC impl_room.A12 := sC impl_room.H12 (eCons 0 (tP (aSl .s4)) (eCons 3 (tRef 3 0) (eCons 6 (tRef 6 0) (eCons 8 (tRef 8 0) (eCons 11 (tP (aSl .s4)) (eCons 12 (tP (aI .i64)) (eCons 13 (tP (aI .i64)) (eCons 23 (tP (aSl .s4)) (eCons 24 (tP (aI .i64)) (eCons 25 (tP (aI .i64)) (eCons 36 (tP (aSl .s4)) (eCons 37 (tP (aI .i64)) (eCons 38 (tP (aI .i64)) eNil))))))))))))) (bCons 3 (xVr cS4) (bCons 6 (xVr cS4) (bCons 8 (xVr cS4) bNil)))
@[reducible] def impl_room.B12 : Type := ((Bool × Unit) × (Unit)) ⊕ (((List S4) × Unit × Unit × (List S4) × Int × Int × (List S4) × Int × Int × Unit) × (S4 × S4 × Unit))
noncomputable def impl_room.X12 : XC impl_room.B12 := xOr (xRet (sC ⟨[], [4], [], [], []⟩ (eCons 4 (tP aB) eNil) bNil)) (xExit 4 (sC ⟨[], [0, 3, 6, 11, 12, 13, 23, 24, 25], [3, 6], [], []⟩ (eCons 0 (tP (aSl .s4)) (eCons 3 (tRef 3 0) (eCons 6 (tRef 6 0) (eCons 11 (tP (aSl .s4)) (eCons 12 (tP (aI .i64)) (eCons 13 (tP (aI .i64)) (eCons 23 (tP (aSl .s4)) (eCons 24 (tP (aI .i64)) (eCons 25 (tP (aI .i64)) eNil))))))))) (bCons 3 (xVr cS4) (bCons 6 (xVr cS4) bNil))))
noncomputable def impl_room.s12 (k : Nat)  (J : (List S4) → (List S4) → Int → Int → (List S4) → Int → Int → (List S4) → Int → Int → S4 → S4 → S4 → Option impl_room.B12) (x0 : List S4) (x11 : List S4) (x12 : Int) (x13 : Int) (x23 : List S4) (x24 : Int) (x25 : Int) (x36 : List S4) (x37 : Int) (x38 : Int) (b3 : S4) (b6 : S4) (b8 : S4) : Option impl_room.B12 :=
  if (decide (x38 < x37)) = true then (if 0 ≤ x38 then (if x38 < (x36.length : Int) then ((impl_clash4.f k  (rd x36 x38) b8 b6 b3).bind fun t3 => if t3 = true then (some (.inl ((false, ()), (())))) else (J x0 x11 x12 x13 x23 x24 x25 x36 x37 (W (x38 + 1)) b3 b6 b8)) else none) else none) else (some (.inr ((x0, (), (), x11, x12, x13, x23, x24, x25, ()), (b3, b6, ()))))
noncomputable def impl_room.l12 (k : Nat)  : Nat → (List S4) → (List S4) → Int → Int → (List S4) → Int → Int → (List S4) → Int → Int → S4 → S4 → S4 → Option impl_room.B12
  | 0, _, _, _, _, _, _, _, _, _, _, _, _, _ => none
  | n + 1, x0, x11, x12, x13, x23, x24, x25, x36, x37, x38, b3, b6, b8 => impl_room.s12 k (impl_room.l12 k n) x0 x11 x12 x13 x23 x24 x25 x36 x37 x38 b3 b6 b8
noncomputable def impl_room.H7 : Hd := ⟨[], [0, 3, 6, 11, 12, 13, 23, 24, 25], [3, 6], [], []⟩
@[reducible] def impl_room.A7 : Type := (((List S4) × Unit × Unit × (List S4) × Int × Int × (List S4) × Int × Int × Unit) × (S4 × S4 × Unit))
noncomputable def impl_room.Z7 : SC impl_room.A7 := sC impl_room.H7 (eCons 0 (tP (aSl .s4)) (eCons 3 (tRef 3 0) (eCons 6 (tRef 6 0) (eCons 11 (tP (aSl .s4)) (eCons 12 (tP (aI .i64)) (eCons 13 (tP (aI .i64)) (eCons 23 (tP (aSl .s4)) (eCons 24 (tP (aI .i64)) (eCons 25 (tP (aI .i64)) eNil))))))))) (bCons 3 (xVr cS4) (bCons 6 (xVr cS4) bNil))
@[reducible] def impl_room.B7 : Type := ((Bool × Unit) × (Unit)) ⊕ (((List S4) × Unit × (List S4) × Int × Int × Unit) × (S4 × Unit))
noncomputable def impl_room.X7 : XC impl_room.B7 := xOr (xRet (sC ⟨[], [4], [], [], []⟩ (eCons 4 (tP aB) eNil) bNil)) (xExit 2 (sC ⟨[], [0, 3, 11, 12, 13], [3], [], []⟩ (eCons 0 (tP (aSl .s4)) (eCons 3 (tRef 3 0) (eCons 11 (tP (aSl .s4)) (eCons 12 (tP (aI .i64)) (eCons 13 (tP (aI .i64)) eNil))))) (bCons 3 (xVr cS4) bNil)))
noncomputable def impl_room.s7 (k : Nat)  (J : (List S4) → (List S4) → Int → Int → (List S4) → Int → Int → S4 → S4 → Option impl_room.B7) (x0 : List S4) (x11 : List S4) (x12 : Int) (x13 : Int) (x23 : List S4) (x24 : Int) (x25 : Int) (b3 : S4) (b6 : S4) : Option impl_room.B7 :=
  if (decide (x25 < x24)) = true then (if 0 ≤ x25 then (if x25 < (x23.length : Int) then ((impl_clash3.f k  (rd x23 x25) b6 b3).bind fun t2 => if t2 = true then (some (.inl ((false, ()), (())))) else (if 0 ≤ x25 then (if x25 ≤ (x0.length : Int) then ((impl_room.l12 k k x0 x11 x12 x13 x23 x24 x25 (x0.take x25.toNat) ((x0.take x25.toNat).length : Int) 0 b3 b6 (rd x23 x25)).bind fun | .inl r4 => (some (.inl ((r4.1.1, ()), (())))) | .inr x5 => (J x5.1.1 x5.1.2.2.2.1 x5.1.2.2.2.2.1 x5.1.2.2.2.2.2.1 x5.1.2.2.2.2.2.2.1 x5.1.2.2.2.2.2.2.2.1 (W (x5.1.2.2.2.2.2.2.2.2.1 + 1)) x5.2.1 x5.2.2.1)) else none) else none)) else none) else none) else (some (.inr ((x0, (), x11, x12, x13, ()), (b3, ()))))
noncomputable def impl_room.l7 (k : Nat)  : Nat → (List S4) → (List S4) → Int → Int → (List S4) → Int → Int → S4 → S4 → Option impl_room.B7
  | 0, _, _, _, _, _, _, _, _, _ => none
  | n + 1, x0, x11, x12, x13, x23, x24, x25, b3, b6 => impl_room.s7 k (impl_room.l7 k n) x0 x11 x12 x13 x23 x24 x25 b3 b6
noncomputable def impl_room.H2 : Hd := ⟨[], [0, 3, 11, 12, 13], [3], [], []⟩
@[reducible] def impl_room.A2 : Type := (((List S4) × Unit × (List S4) × Int × Int × Unit) × (S4 × Unit))
noncomputable def impl_room.Z2 : SC impl_room.A2 := sC impl_room.H2 (eCons 0 (tP (aSl .s4)) (eCons 3 (tRef 3 0) (eCons 11 (tP (aSl .s4)) (eCons 12 (tP (aI .i64)) (eCons 13 (tP (aI .i64)) eNil))))) (bCons 3 (xVr cS4) bNil)
@[reducible] def impl_room.B2 : Type := ((Bool × Unit) × (Unit)) ⊕ ((Unit) × (Unit))
noncomputable def impl_room.X2 : XC impl_room.B2 := xOr (xRet (sC ⟨[], [4], [], [], []⟩ (eCons 4 (tP aB) eNil) bNil)) (xExit 0 (sC ⟨[], [], [], [], []⟩ eNil bNil))
noncomputable def impl_room.s2 (k : Nat)  (J : (List S4) → (List S4) → Int → Int → S4 → Option impl_room.B2) (x0 : List S4) (x11 : List S4) (x12 : Int) (x13 : Int) (b3 : S4) : Option impl_room.B2 :=
  if (decide (x13 < x12)) = true then (if 0 ≤ x13 then (if x13 < (x11.length : Int) then ((impl_clash2.f k  (rd x11 x13) b3).bind fun t1 => if t1 = true then (some (.inl ((false, ()), (())))) else (if 0 ≤ x13 then (if x13 ≤ (x0.length : Int) then ((impl_room.l7 k k x0 x11 x12 x13 (x0.take x13.toNat) ((x0.take x13.toNat).length : Int) 0 b3 (rd x11 x13)).bind fun | .inl r6 => (some (.inl ((r6.1.1, ()), (())))) | .inr x7 => (J x7.1.1 x7.1.2.2.1 x7.1.2.2.2.1 (W (x7.1.2.2.2.2.1 + 1)) x7.2.1)) else none) else none)) else none) else none) else (some (.inr ((()), (()))))
noncomputable def impl_room.l2 (k : Nat)  : Nat → (List S4) → (List S4) → Int → Int → S4 → Option impl_room.B2
  | 0, _, _, _, _, _ => none
  | n + 1, x0, x11, x12, x13, b3 => impl_room.s2 k (impl_room.l2 k n) x0 x11 x12 x13 b3
noncomputable def impl_room.f (k : Nat) (a0 : List S4) (a1 : S4) : Option Bool :=
  (impl_room.l2 k k a0 a0 (a0.length : Int) 0 a1).bind fun | .inl r8 => (some r8.1.1) | .inr x9 => (some true)
noncomputable def impl_room.e (k : Nat) : FE := { α := (List S4) × S4 × Unit, β := Bool, args := (lCons (aSl .s4) (lCons aS4 lNil)), ret := (rOne aB), f := fun p => impl_room.f k p.1 p.2.1 }
noncomputable def impl_room.c (k : Nat) : List (Nat × CE) := [(47, .fn (impl_clash2.e k)), (48, .fn (impl_clash3.e k)), (49, .fn (impl_clash4.e k))]
noncomputable def impl_room.bd : Code := match Try.f39.body with | some c => c | none => .skip
noncomputable def impl_room.e12 (k : Nat) : LE := { H := impl_room.H12, α := impl_room.A12, β := impl_room.B12, st := impl_room.Z12, xt := impl_room.X12, f := fun p => impl_room.l12 k k p.1.1 p.1.2.2.2.2.1 p.1.2.2.2.2.2.1 p.1.2.2.2.2.2.2.1 p.1.2.2.2.2.2.2.2.1 p.1.2.2.2.2.2.2.2.2.1 p.1.2.2.2.2.2.2.2.2.2.1 p.1.2.2.2.2.2.2.2.2.2.2.1 p.1.2.2.2.2.2.2.2.2.2.2.2.1 p.1.2.2.2.2.2.2.2.2.2.2.2.2.1 p.2.1 p.2.2.1 p.2.2.2.1 }
noncomputable def impl_room.e7 (k : Nat) : LE := { H := impl_room.H7, α := impl_room.A7, β := impl_room.B7, st := impl_room.Z7, xt := impl_room.X7, f := fun p => impl_room.l7 k k p.1.1 p.1.2.2.2.1 p.1.2.2.2.2.1 p.1.2.2.2.2.2.1 p.1.2.2.2.2.2.2.1 p.1.2.2.2.2.2.2.2.1 p.1.2.2.2.2.2.2.2.2.1 p.2.1 p.2.2.1 }
noncomputable def impl_room.e2 (k : Nat) : LE := { H := impl_room.H2, α := impl_room.A2, β := impl_room.B2, st := impl_room.Z2, xt := impl_room.X2, f := fun p => impl_room.l2 k k p.1.1 p.1.2.2.1 p.1.2.2.2.1 p.1.2.2.2.2.1 p.2.1 }
noncomputable def impl_room.g (k : Nat) : List (Nat × LE) := [(12, impl_room.e12 k), (7, impl_room.e7 k), (2, impl_room.e2 k)]
theorem impl_room.t12 (k : Nat) (I : S2 → Option impl_room.B12) (x0 : List S4) (x11 : List S4) (x12 : Int) (x13 : Int) (x23 : List S4) (x24 : Int) (x25 : Int) (x36 : List S4) (x37 : Int) (x38 : Int) (b3 : S4) (b6 : S4) (b8 : S4) : stepOf (mkCx Try.prog (impl_room.c k) (impl_room.g k) : Cx impl_room.B12) (loopAt (loopAt (loopAt impl_room.bd 0) 0) 0) impl_room.H12 impl_room.X12.dec I (impl_room.Z12.enc ((x0, (), (), (), x11, x12, x13, x23, x24, x25, x36, x37, x38, ()), (b3, b6, b8, ()))) = impl_room.s12 k (fun x0 x11 x12 x13 x23 x24 x25 x36 x37 x38 b3 b6 b8 => I (impl_room.Z12.enc ((x0, (), (), (), x11, x12, x13, x23, x24, x25, x36, x37, x38, ()), (b3, b6, b8, ())))) x0 x11 x12 x13 x23 x24 x25 x36 x37 x38 b3 b6 b8 := by kernel_rfl
theorem impl_room.i12 (k : Nat) : ∀ (n : Nat) (x0 : List S4) (x11 : List S4) (x12 : Int) (x13 : Int) (x23 : List S4) (x24 : Int) (x25 : Int) (x36 : List S4) (x37 : Int) (x38 : Int) (b3 : S4) (b6 : S4) (b8 : S4), iter (evCode (mkCx Try.prog (impl_room.c k) (impl_room.g k) : Cx impl_room.B12) (loopAt (loopAt (loopAt impl_room.bd 0) 0) 0)) impl_room.H12 impl_room.X12.dec n (impl_room.Z12.enc ((x0, (), (), (), x11, x12, x13, x23, x24, x25, x36, x37, x38, ()), (b3, b6, b8, ()))) = impl_room.l12 k n x0 x11 x12 x13 x23 x24 x25 x36 x37 x38 b3 b6 b8
  | 0, _, _, _, _, _, _, _, _, _, _, _, _, _ => rfl
  | n + 1, x0, x11, x12, x13, x23, x24, x25, x36, x37, x38, b3, b6, b8 => ((iter_step _ _ _ _ n _).trans (impl_room.t12 k _ x0 x11 x12 x13 x23 x24 x25 x36 x37 x38 b3 b6 b8)).trans (congrArg (fun J => impl_room.s12 k J x0 x11 x12 x13 x23 x24 x25 x36 x37 x38 b3 b6 b8) (funext fun x0 => funext fun x11 => funext fun x12 => funext fun x13 => funext fun x23 => funext fun x24 => funext fun x25 => funext fun x36 => funext fun x37 => funext fun x38 => funext fun b3 => funext fun b6 => funext fun b8 => impl_room.i12 k n x0 x11 x12 x13 x23 x24 x25 x36 x37 x38 b3 b6 b8))
theorem impl_room.t7 (k : Nat) (I : S2 → Option impl_room.B7) (x0 : List S4) (x11 : List S4) (x12 : Int) (x13 : Int) (x23 : List S4) (x24 : Int) (x25 : Int) (b3 : S4) (b6 : S4) : stepOf (mkCx Try.prog (impl_room.c k) (impl_room.g k) : Cx impl_room.B7) (loopAt (loopAt impl_room.bd 0) 0) impl_room.H7 impl_room.X7.dec I (impl_room.Z7.enc ((x0, (), (), x11, x12, x13, x23, x24, x25, ()), (b3, b6, ()))) = impl_room.s7 k (fun x0 x11 x12 x13 x23 x24 x25 b3 b6 => I (impl_room.Z7.enc ((x0, (), (), x11, x12, x13, x23, x24, x25, ()), (b3, b6, ())))) x0 x11 x12 x13 x23 x24 x25 b3 b6 := by kernel_rfl
theorem impl_room.i7 (k : Nat) : ∀ (n : Nat) (x0 : List S4) (x11 : List S4) (x12 : Int) (x13 : Int) (x23 : List S4) (x24 : Int) (x25 : Int) (b3 : S4) (b6 : S4), iter (evCode (mkCx Try.prog (impl_room.c k) (impl_room.g k) : Cx impl_room.B7) (loopAt (loopAt impl_room.bd 0) 0)) impl_room.H7 impl_room.X7.dec n (impl_room.Z7.enc ((x0, (), (), x11, x12, x13, x23, x24, x25, ()), (b3, b6, ()))) = impl_room.l7 k n x0 x11 x12 x13 x23 x24 x25 b3 b6
  | 0, _, _, _, _, _, _, _, _, _ => rfl
  | n + 1, x0, x11, x12, x13, x23, x24, x25, b3, b6 => ((iter_step _ _ _ _ n _).trans (impl_room.t7 k _ x0 x11 x12 x13 x23 x24 x25 b3 b6)).trans (congrArg (fun J => impl_room.s7 k J x0 x11 x12 x13 x23 x24 x25 b3 b6) (funext fun x0 => funext fun x11 => funext fun x12 => funext fun x13 => funext fun x23 => funext fun x24 => funext fun x25 => funext fun b3 => funext fun b6 => impl_room.i7 k n x0 x11 x12 x13 x23 x24 x25 b3 b6))
theorem impl_room.t2 (k : Nat) (I : S2 → Option impl_room.B2) (x0 : List S4) (x11 : List S4) (x12 : Int) (x13 : Int) (b3 : S4) : stepOf (mkCx Try.prog (impl_room.c k) (impl_room.g k) : Cx impl_room.B2) (loopAt impl_room.bd 0) impl_room.H2 impl_room.X2.dec I (impl_room.Z2.enc ((x0, (), x11, x12, x13, ()), (b3, ()))) = impl_room.s2 k (fun x0 x11 x12 x13 b3 => I (impl_room.Z2.enc ((x0, (), x11, x12, x13, ()), (b3, ())))) x0 x11 x12 x13 b3 := by kernel_rfl
theorem impl_room.i2 (k : Nat) : ∀ (n : Nat) (x0 : List S4) (x11 : List S4) (x12 : Int) (x13 : Int) (b3 : S4), iter (evCode (mkCx Try.prog (impl_room.c k) (impl_room.g k) : Cx impl_room.B2) (loopAt impl_room.bd 0)) impl_room.H2 impl_room.X2.dec n (impl_room.Z2.enc ((x0, (), x11, x12, x13, ()), (b3, ()))) = impl_room.l2 k n x0 x11 x12 x13 b3
  | 0, _, _, _, _, _ => rfl
  | n + 1, x0, x11, x12, x13, b3 => ((iter_step _ _ _ _ n _).trans (impl_room.t2 k _ x0 x11 x12 x13 b3)).trans (congrArg (fun J => impl_room.s2 k J x0 x11 x12 x13 b3) (funext fun x0 => funext fun x11 => funext fun x12 => funext fun x13 => funext fun b3 => impl_room.i2 k n x0 x11 x12 x13 b3))
theorem impl_room.to12 (k : Nat) (hC : AllFun Try.prog (impl_room.c k)) : LoopTo Try.prog 50 (impl_room.e12 k) (loopAt (loopAt (loopAt impl_room.bd 0) 0) 0) := loop_to mixed hC (by kernel_rfl) (loops_all 0 (by kernel_rfl) fun i hi => absurd hi (Nat.not_lt_zero i)) fun a b h => ⟨k, (impl_room.i12 k k a.1.1 a.1.2.2.2.2.1 a.1.2.2.2.2.2.1 a.1.2.2.2.2.2.2.1 a.1.2.2.2.2.2.2.2.1 a.1.2.2.2.2.2.2.2.2.1 a.1.2.2.2.2.2.2.2.2.2.1 a.1.2.2.2.2.2.2.2.2.2.2.1 a.1.2.2.2.2.2.2.2.2.2.2.2.1 a.1.2.2.2.2.2.2.2.2.2.2.2.2.1 a.2.1 a.2.2.1 a.2.2.2.1).trans h⟩
theorem impl_room.to7 (k : Nat) (hC : AllFun Try.prog (impl_room.c k)) : LoopTo Try.prog 50 (impl_room.e7 k) (loopAt (loopAt impl_room.bd 0) 0) := loop_to mixed hC (by kernel_rfl) (loops_all 1 (by kernel_rfl) fun i hi => by obtain rfl : i = 0 := Nat.lt_one_iff.1 hi; exact ⟨impl_room.e12 k, by kernel_rfl, impl_room.to12 k hC⟩) fun a b h => ⟨k, (impl_room.i7 k k a.1.1 a.1.2.2.2.1 a.1.2.2.2.2.1 a.1.2.2.2.2.2.1 a.1.2.2.2.2.2.2.1 a.1.2.2.2.2.2.2.2.1 a.1.2.2.2.2.2.2.2.2.1 a.2.1 a.2.2.1).trans h⟩
theorem impl_room.to2 (k : Nat) (hC : AllFun Try.prog (impl_room.c k)) : LoopTo Try.prog 50 (impl_room.e2 k) (loopAt impl_room.bd 0) := loop_to mixed hC (by kernel_rfl) (loops_all 1 (by kernel_rfl) fun i hi => by obtain rfl : i = 0 := Nat.lt_one_iff.1 hi; exact ⟨impl_room.e7 k, by kernel_rfl, impl_room.to7 k hC⟩) fun a b h => ⟨k, (impl_room.i2 k k a.1.1 a.1.2.2.1 a.1.2.2.2.1 a.1.2.2.2.2.1 a.2.1).trans h⟩
theorem impl_room.link (k : Nat) (a0 : List S4) (a1 : S4) : evFun (mkCx Try.prog (impl_room.c k) (impl_room.g k) : Cx Bool) Try.f39 ((impl_room.e k).args.enc (a0, a1, ())) (impl_room.e k).ret.dec = impl_room.f k a0 a1 := by kernel_rfl
theorem impl_room.ok1 (k : Nat) (hC : AllFun Try.prog (impl_room.c k)) : Fun Try.prog 39 (impl_room.e k).G := fun_ok mixed (body := impl_room.bd) Try.func39 (by kernel_rfl) (by kernel_rfl) (by kernel_rfl) hC (loops_all 1 (by kernel_rfl) fun i hi => by obtain rfl : i = 0 := Nat.lt_one_iff.1 hi; exact ⟨impl_room.e2 k, by kernel_rfl, impl_room.to2 k hC⟩) (impl_room.e k) (fun a => Nat.le_of_ble_eq_true (by kernel_rfl)) fun a b h => (impl_room.link k a.1 a.2.1).trans h
theorem impl_room.ok (k : Nat) : Fun Try.prog 39 (impl_room.e k).G := impl_room.ok1 k ⟨impl_clash2.ok k, impl_clash3.ok k, impl_clash4.ok k, trivial⟩

noncomputable def impl_checker_right.fs (k : Nat) (self31 : Int → Tree → (List S4) → Option (Bool × Int)) (a0 : Int) (a1 : Tree) (a2 : List S4) : Option (Bool × Int) :=
  (impl_Solid_isLeaf.f k  (T1 a1)).bind fun t1 => if t1 = true then (some (((a1.p.a == 0) && ((a1.p.b == 0) && ((a1.p.c == 0) && (a1.p.d == 0)))), a0)) else (if a1.inn = true then (some (false, (W (a0 + 1)))) else (if ((a1.kids.length : Int) != 2) = true then (some (false, (W (a0 + 1)))) else (if (decide ((W (a0 + 1)) > 300)) = true then (some (false, (W (a0 + 1)))) else (if (decide ((a2.length : Int) ≥ 24)) = true then (some (false, (W (a0 + 1)))) else ((impl_PlaneOk.f k  a1.p).bind fun t2 => if (!t2) = true then (some (false, (W (a0 + 1)))) else ((impl_flip.f k  a1.p).bind fun t3 => (impl_room.f k  a2 a1.p).bind fun t4 => if (!t4) = true then (some (false, (W (a0 + 1)))) else ((impl_room.f k  a2 t3).bind fun t5 => if (!t5) = true then (some (false, (W (a0 + 1)))) else (if 0 ≤ 0 then (if 0 < (a1.kids.length : Int) then ((impl_with.f k  a2 a1.p).bind fun t6 => (self31  (W (a0 + 1)) (T1 (rd a1.kids 0)) t6).bind fun t7 => if t7.1 = true then (if 0 ≤ 1 then (if 1 < (a1.kids.length : Int) then ((impl_with.f k  a2 t3).bind fun t8 => (self31  t7.2 (T1 (rd a1.kids 1)) t8).bind fun t9 => some (t9.1, t9.2)) else none) else none) else (some (false, t7.2))) else none) else none))))))))
noncomputable def impl_checker_right.f : Nat → Int → Tree → (List S4) → Option (Bool × Int)
  | 0, _, _, _ => none
  | k + 1, a0, a1, a2 => impl_checker_right.fs k (impl_checker_right.f k) a0 a1 a2
theorem impl_checker_right.fS (k : Nat) (a0 : Int) (a1 : Tree) (a2 : List S4) : impl_checker_right.f (k + 1) a0 a1 a2 = impl_checker_right.fs k (impl_checker_right.f k) a0 a1 a2 := by first | rfl | rw [impl_checker_right.f]
noncomputable def impl_checker_right.e (k : Nat) : FS := { σ := Int, α := Tree × (List S4) × Unit, β := Bool, sk := .var, st := (xVr (cOne (aI .i64))), args := (lCons aTree (lCons (aSl .s4) lNil)), ret := (rOne aB), f := fun s p => impl_checker_right.f k s p.1 p.2.1 }
noncomputable def impl_checker_right.c (k : Nat) : List (Nat × CE) := [(32, .fn (impl_Solid_isLeaf.e k)), (38, .fn (impl_PlaneOk.e k)), (35, .fn (impl_flip.e k)), (39, .fn (impl_room.e k)), (34, .fn (impl_with.e k)), (31, .st (impl_checker_right.e k))]
noncomputable def impl_checker_right.bd : Code := match Try.f31.body with | some c => c | none => .skip
noncomputable def impl_checker_right.g (k : Nat) : List (Nat × LE) := []
theorem impl_checker_right.link (k : Nat) (a0 : Int) (a1 : Tree) (a2 : List S4) : evFunS (mkCx Try.prog (impl_checker_right.c k) (impl_checker_right.g k) : Cx (Bool × Int)) Try.f31 (impl_checker_right.e (k + 1)).sk ((impl_checker_right.e (k + 1)).st.enc a0) ((impl_checker_right.e (k + 1)).args.enc (a1, a2, ())) (impl_checker_right.e (k + 1)).fin = impl_checker_right.fs k (impl_checker_right.f k) a0 a1 a2 := by kernel_rfl
theorem impl_checker_right.ok1 (k : Nat) (hC : AllFun Try.prog (impl_checker_right.c k)) : FunS Try.prog 31 (impl_checker_right.e (k + 1)).sk (impl_checker_right.e (k + 1)).H := fun_okS mixed (body := impl_checker_right.bd) Try.func31 (by kernel_rfl) (by kernel_rfl) (by kernel_rfl) hC (loops_all 0 (by kernel_rfl) fun i hi => absurd hi (Nat.not_lt_zero i)) (impl_checker_right.e (k + 1)) (fun a => Nat.le_of_ble_eq_true (by kernel_rfl)) (Nat.le_of_ble_eq_true (by kernel_rfl)) fun s a b h => (impl_checker_right.link k s a.1 a.2.1).trans ((impl_checker_right.fS k s a.1 a.2.1).symm.trans h)
theorem impl_checker_right.ok : ∀ k, FunS Try.prog 31 (impl_checker_right.e k).sk (impl_checker_right.e k).H
  | 0 => funS_zero (by kernel_rfl) fun _ _ => rfl
  | k + 1 => impl_checker_right.ok1 k ⟨impl_Solid_isLeaf.ok k, impl_PlaneOk.ok k, impl_flip.ok k, impl_room.ok k, impl_with.ok k, impl_checker_right.ok k, trivial⟩

noncomputable def impl_SolidOk.f (k : Nat) (a0 : Tree) : Option Bool :=
  (impl_checker_right.f k  0 (T1 a0) ([] : List S4)).bind fun t1 => some t1.1
noncomputable def impl_SolidOk.e (k : Nat) : FE := { α := Tree × Unit, β := Bool, args := (lCons aTree lNil), ret := (rOne aB), f := fun p => impl_SolidOk.f k p.1 }
noncomputable def impl_SolidOk.c (k : Nat) : List (Nat × CE) := [(31, .st (impl_checker_right.e k))]
noncomputable def impl_SolidOk.bd : Code := match Try.f18.body with | some c => c | none => .skip
noncomputable def impl_SolidOk.g (k : Nat) : List (Nat × LE) := []
theorem impl_SolidOk.link (k : Nat) (a0 : Tree) : evFun (mkCx Try.prog (impl_SolidOk.c k) (impl_SolidOk.g k) : Cx Bool) Try.f18 ((impl_SolidOk.e k).args.enc (a0, ())) (impl_SolidOk.e k).ret.dec = impl_SolidOk.f k a0 := by kernel_rfl
theorem impl_SolidOk.ok1 (k : Nat) (hC : AllFun Try.prog (impl_SolidOk.c k)) : Fun Try.prog 18 (impl_SolidOk.e k).G := fun_ok mixed (body := impl_SolidOk.bd) Try.func18 (by kernel_rfl) (by kernel_rfl) (by kernel_rfl) hC (loops_all 0 (by kernel_rfl) fun i hi => absurd hi (Nat.not_lt_zero i)) (impl_SolidOk.e k) (fun a => Nat.le_of_ble_eq_true (by kernel_rfl)) fun a b h => (impl_SolidOk.link k a.1).trans h
theorem impl_SolidOk.ok (k : Nat) : Fun Try.prog 18 (impl_SolidOk.e k).G := impl_SolidOk.ok1 k ⟨impl_checker_right.ok k, trivial⟩

theorem slices_Clone.ok (k : Nat) : Fun Try.prog 33 (slices_Clone.e k).G := slices_Clone.okW k

noncomputable def impl_Solid_cells.fs (k : Nat) (self19 : Tree → Bool → (List S4) → Option (List (List S4))) (a0 : Tree) (a1 : Bool) (a2 : List S4) : Option (List (List S4)) :=
  (impl_Solid_isLeaf.f k  (T1 a0)).bind fun t1 => if t1 = true then (if (a0.inn == a1) = true then ((slices_Clone.f k  a2).bind fun t2 => some ([t2] : List (List S4))) else (some ([] : List (List S4)))) else (if 0 ≤ 0 then (if 0 < (a0.kids.length : Int) then ((impl_with.f k  a2 a0.p).bind fun t3 => (self19  (T1 (rd a0.kids 0)) a1 t3).bind fun t4 => if 0 ≤ 1 then (if 1 < (a0.kids.length : Int) then ((impl_flip.f k  a0.p).bind fun t5 => (impl_with.f k  a2 t5).bind fun t6 => (self19  (T1 (rd a0.kids 1)) a1 t6).bind fun t7 => if lt47 (t4.length + t7.length) = true then (some (t4 ++ t7)) else none) else none) else none) else none) else none)
noncomputable def impl_Solid_cells.f : Nat → Tree → Bool → (List S4) → Option (List (List S4))
  | 0, _, _, _ => none
  | k + 1, a0, a1, a2 => impl_Solid_cells.fs k (impl_Solid_cells.f k) a0 a1 a2
theorem impl_Solid_cells.fS (k : Nat) (a0 : Tree) (a1 : Bool) (a2 : List S4) : impl_Solid_cells.f (k + 1) a0 a1 a2 = impl_Solid_cells.fs k (impl_Solid_cells.f k) a0 a1 a2 := by first | rfl | rw [impl_Solid_cells.f]
noncomputable def impl_Solid_cells.e (k : Nat) : FE := { α := Tree × Bool × (List S4) × Unit, β := List (List S4), args := (lCons aTreeP (lCons aB (lCons (aSl .s4) lNil))), ret := (rRows 43 30), f := fun p => impl_Solid_cells.f k p.1 p.2.1 p.2.2.1 }
noncomputable def impl_Solid_cells.c (k : Nat) : List (Nat × CE) := [(32, .fn (impl_Solid_isLeaf.e k)), (33, .fn (slices_Clone.e k)), (34, .fn (impl_with.e k)), (19, .fn (impl_Solid_cells.e k)), (35, .fn (impl_flip.e k))]
noncomputable def impl_Solid_cells.bd : Code := match Try.f19.body with | some c => c | none => .skip
noncomputable def impl_Solid_cells.g (k : Nat) : List (Nat × LE) := []
theorem impl_Solid_cells.link (k : Nat) (a0 : Tree) (a1 : Bool) (a2 : List S4) : evFun (mkCx Try.prog (impl_Solid_cells.c k) (impl_Solid_cells.g k) : Cx (List (List S4))) Try.f19 ((impl_Solid_cells.e (k + 1)).args.enc (a0, a1, a2, ())) (impl_Solid_cells.e (k + 1)).ret.dec = impl_Solid_cells.fs k (impl_Solid_cells.f k) a0 a1 a2 := by kernel_rfl
theorem impl_Solid_cells.ok1 (k : Nat) (hC : AllFun Try.prog (impl_Solid_cells.c k)) : Fun Try.prog 19 (impl_Solid_cells.e (k + 1)).G := fun_ok mixed (body := impl_Solid_cells.bd) Try.func19 (by kernel_rfl) (by kernel_rfl) (by kernel_rfl) hC (loops_all 0 (by kernel_rfl) fun i hi => absurd hi (Nat.not_lt_zero i)) (impl_Solid_cells.e (k + 1)) (fun a => Nat.le_of_ble_eq_true (by kernel_rfl)) fun a b h => (impl_Solid_cells.link k a.1 a.2.1 a.2.2.1).trans ((impl_Solid_cells.fS k a.1 a.2.1 a.2.2.1).symm.trans h)
theorem impl_Solid_cells.ok : ∀ k, Fun Try.prog 19 (impl_Solid_cells.e k).G
  | 0 => fun_zero (by kernel_rfl) fun _ => rfl
  | k + 1 => impl_Solid_cells.ok1 k ⟨impl_Solid_isLeaf.ok k, slices_Clone.ok k, impl_with.ok k, impl_Solid_cells.ok k, impl_flip.ok k, trivial⟩

noncomputable def impl_Cells.f (k : Nat) (a0 : Tree) (a1 : Bool) : Option (List (List S4)) :=
  (impl_SolidOk.f k  (T1 a0)).bind fun t1 => if (!t1) = true then (some ([] : List (List S4))) else ((impl_Solid_cells.f k  (T1 a0) a1 ([] : List S4)).bind fun t2 => some t2)
noncomputable def impl_Cells.e (k : Nat) : FE := { α := Tree × Bool × Unit, β := List (List S4), args := (lCons aTree (lCons aB lNil)), ret := (rRows 43 30), f := fun p => impl_Cells.f k p.1 p.2.1 }
noncomputable def impl_Cells.c (k : Nat) : List (Nat × CE) := [(18, .fn (impl_SolidOk.e k)), (19, .fn (impl_Solid_cells.e k))]
noncomputable def impl_Cells.bd : Code := match Try.f7.body with | some c => c | none => .skip
noncomputable def impl_Cells.g (k : Nat) : List (Nat × LE) := []
theorem impl_Cells.link (k : Nat) (a0 : Tree) (a1 : Bool) : evFun (mkCx Try.prog (impl_Cells.c k) (impl_Cells.g k) : Cx (List (List S4))) Try.f7 ((impl_Cells.e k).args.enc (a0, a1, ())) (impl_Cells.e k).ret.dec = impl_Cells.f k a0 a1 := by kernel_rfl
theorem impl_Cells.ok1 (k : Nat) (hC : AllFun Try.prog (impl_Cells.c k)) : Fun Try.prog 7 (impl_Cells.e k).G := fun_ok mixed (body := impl_Cells.bd) Try.func7 (by kernel_rfl) (by kernel_rfl) (by kernel_rfl) hC (loops_all 0 (by kernel_rfl) fun i hi => absurd hi (Nat.not_lt_zero i)) (impl_Cells.e k) (fun a => Nat.le_of_ble_eq_true (by kernel_rfl)) fun a b h => (impl_Cells.link k a.1 a.2.1).trans h
theorem impl_Cells.ok (k : Nat) : Fun Try.prog 7 (impl_Cells.e k).G := impl_Cells.ok1 k ⟨impl_SolidOk.ok k, impl_Solid_cells.ok k, trivial⟩

noncomputable def laws_eqPlane.f (k : Nat) (a0 : S4) (a1 : S4) : Option Bool :=
  if (a0.a != a1.a) = true then (some false) else (if (a0.b != a1.b) = true then (some false) else (if (a0.c != a1.c) = true then (some false) else (if (a0.d != a1.d) = true then (some false) else (some true))))
noncomputable def laws_eqPlane.e (k : Nat) : FE := { α := S4 × S4 × Unit, β := Bool, args := (lCons aS4 (lCons aS4 lNil)), ret := (rOne aB), f := fun p => laws_eqPlane.f k p.1 p.2.1 }
noncomputable def laws_eqPlane.c (k : Nat) : List (Nat × CE) := []
noncomputable def laws_eqPlane.bd : Code := match Try.f21.body with | some c => c | none => .skip
noncomputable def laws_eqPlane.g (k : Nat) : List (Nat × LE) := []
theorem laws_eqPlane.link (k : Nat) (a0 : S4) (a1 : S4) : evFun (mkCx Try.prog (laws_eqPlane.c k) (laws_eqPlane.g k) : Cx Bool) Try.f21 ((laws_eqPlane.e k).args.enc (a0, a1, ())) (laws_eqPlane.e k).ret.dec = laws_eqPlane.f k a0 a1 := by kernel_rfl
theorem laws_eqPlane.ok1 (k : Nat) (hC : AllFun Try.prog (laws_eqPlane.c k)) : Fun Try.prog 21 (laws_eqPlane.e k).G := fun_ok mixed (body := laws_eqPlane.bd) Try.func21 (by kernel_rfl) (by kernel_rfl) (by kernel_rfl) hC (loops_all 0 (by kernel_rfl) fun i hi => absurd hi (Nat.not_lt_zero i)) (laws_eqPlane.e k) (fun a => Nat.le_of_ble_eq_true (by kernel_rfl)) fun a b h => (laws_eqPlane.link k a.1 a.2.1).trans h
theorem laws_eqPlane.ok (k : Nat) : Fun Try.prog 21 (laws_eqPlane.e k).G := laws_eqPlane.ok1 k trivial

noncomputable def laws_eqPlaneS.H4 : Hd := ⟨[], [0, 1, 5], [], [], []⟩
@[reducible] def laws_eqPlaneS.A4 : Type := (((List S4) × (List S4) × Int × Unit) × (Unit))
noncomputable def laws_eqPlaneS.Z4 : SC laws_eqPlaneS.A4 := sC laws_eqPlaneS.H4 (eCons 0 (tP (aSl .s4)) (eCons 1 (tP (aSl .s4)) (eCons 5 (tP (aI .i64)) eNil))) bNil
@[reducible] def laws_eqPlaneS.B4 : Type := ((Bool × Unit) × (Unit)) ⊕ ((Unit) × (Unit))
noncomputable def laws_eqPlaneS.X4 : XC laws_eqPlaneS.B4 := xOr (xRet (sC ⟨[], [4], [], [], []⟩ (eCons 4 (tP aB) eNil) bNil)) (xExit 0 (sC ⟨[], [], [], [], []⟩ eNil bNil))
noncomputable def laws_eqPlaneS.s4 (k : Nat)  (J : (List S4) → (List S4) → Int → Option laws_eqPlaneS.B4) (x0 : List S4) (x1 : List S4) (x5 : Int) : Option laws_eqPlaneS.B4 :=
  if (decide (x5 < (x0.length : Int))) = true then (if 0 ≤ x5 then (if x5 < (x0.length : Int) then (if 0 ≤ x5 then (if x5 < (x1.length : Int) then ((laws_eqPlane.f k  (rd x0 x5) (rd x1 x5)).bind fun t1 => if (!t1) = true then (some (.inl ((false, ()), (())))) else (J x0 x1 (W (x5 + 1)))) else none) else none) else none) else none) else (some (.inr ((()), (()))))
noncomputable def laws_eqPlaneS.l4 (k : Nat)  : Nat → (List S4) → (List S4) → Int → Option laws_eqPlaneS.B4
  | 0, _, _, _ => none
  | n + 1, x0, x1, x5 => laws_eqPlaneS.s4 k (laws_eqPlaneS.l4 k n) x0 x1 x5
noncomputable def laws_eqPlaneS.f (k : Nat) (a0 : List S4) (a1 : List S4) : Option Bool :=
  if ((a0.length : Int) != (a1.length : Int)) = true then (some false) else ((laws_eqPlaneS.l4 k k a0 a1 0).bind fun | .inl r2 => (some r2.1.1) | .inr x3 => (some true))
noncomputable def laws_eqPlaneS.e (k : Nat) : FE := { α := (List S4) × (List S4) × Unit, β := Bool, args := (lCons (aSl .s4) (lCons (aSl .s4) lNil)), ret := (rOne aB), f := fun p => laws_eqPlaneS.f k p.1 p.2.1 }
noncomputable def laws_eqPlaneS.c (k : Nat) : List (Nat × CE) := [(21, .fn (laws_eqPlane.e k))]
noncomputable def laws_eqPlaneS.bd : Code := match Try.f20.body with | some c => c | none => .skip
noncomputable def laws_eqPlaneS.e4 (k : Nat) : LE := { H := laws_eqPlaneS.H4, α := laws_eqPlaneS.A4, β := laws_eqPlaneS.B4, st := laws_eqPlaneS.Z4, xt := laws_eqPlaneS.X4, f := fun p => laws_eqPlaneS.l4 k k p.1.1 p.1.2.1 p.1.2.2.1 }
noncomputable def laws_eqPlaneS.g (k : Nat) : List (Nat × LE) := [(4, laws_eqPlaneS.e4 k)]
theorem laws_eqPlaneS.t4 (k : Nat) (I : S2 → Option laws_eqPlaneS.B4) (x0 : List S4) (x1 : List S4) (x5 : Int) : stepOf (mkCx Try.prog (laws_eqPlaneS.c k) (laws_eqPlaneS.g k) : Cx laws_eqPlaneS.B4) (loopAt laws_eqPlaneS.bd 0) laws_eqPlaneS.H4 laws_eqPlaneS.X4.dec I (laws_eqPlaneS.Z4.enc ((x0, x1, x5, ()), (()))) = laws_eqPlaneS.s4 k (fun x0 x1 x5 => I (laws_eqPlaneS.Z4.enc ((x0, x1, x5, ()), (())))) x0 x1 x5 := by kernel_rfl
theorem laws_eqPlaneS.i4 (k : Nat) : ∀ (n : Nat) (x0 : List S4) (x1 : List S4) (x5 : Int), iter (evCode (mkCx Try.prog (laws_eqPlaneS.c k) (laws_eqPlaneS.g k) : Cx laws_eqPlaneS.B4) (loopAt laws_eqPlaneS.bd 0)) laws_eqPlaneS.H4 laws_eqPlaneS.X4.dec n (laws_eqPlaneS.Z4.enc ((x0, x1, x5, ()), (()))) = laws_eqPlaneS.l4 k n x0 x1 x5
  | 0, _, _, _ => rfl
  | n + 1, x0, x1, x5 => ((iter_step _ _ _ _ n _).trans (laws_eqPlaneS.t4 k _ x0 x1 x5)).trans (congrArg (fun J => laws_eqPlaneS.s4 k J x0 x1 x5) (funext fun x0 => funext fun x1 => funext fun x5 => laws_eqPlaneS.i4 k n x0 x1 x5))
theorem laws_eqPlaneS.to4 (k : Nat) (hC : AllFun Try.prog (laws_eqPlaneS.c k)) : LoopTo Try.prog 27 (laws_eqPlaneS.e4 k) (loopAt laws_eqPlaneS.bd 0) := loop_to mixed hC (by kernel_rfl) (loops_all 0 (by kernel_rfl) fun i hi => absurd hi (Nat.not_lt_zero i)) fun a b h => ⟨k, (laws_eqPlaneS.i4 k k a.1.1 a.1.2.1 a.1.2.2.1).trans h⟩
theorem laws_eqPlaneS.link (k : Nat) (a0 : List S4) (a1 : List S4) : evFun (mkCx Try.prog (laws_eqPlaneS.c k) (laws_eqPlaneS.g k) : Cx Bool) Try.f20 ((laws_eqPlaneS.e k).args.enc (a0, a1, ())) (laws_eqPlaneS.e k).ret.dec = laws_eqPlaneS.f k a0 a1 := by kernel_rfl
theorem laws_eqPlaneS.ok1 (k : Nat) (hC : AllFun Try.prog (laws_eqPlaneS.c k)) : Fun Try.prog 20 (laws_eqPlaneS.e k).G := fun_ok mixed (body := laws_eqPlaneS.bd) Try.func20 (by kernel_rfl) (by kernel_rfl) (by kernel_rfl) hC (loops_all 1 (by kernel_rfl) fun i hi => by obtain rfl : i = 0 := Nat.lt_one_iff.1 hi; exact ⟨laws_eqPlaneS.e4 k, by kernel_rfl, laws_eqPlaneS.to4 k hC⟩) (laws_eqPlaneS.e k) (fun a => Nat.le_of_ble_eq_true (by kernel_rfl)) fun a b h => (laws_eqPlaneS.link k a.1 a.2.1).trans h
theorem laws_eqPlaneS.ok (k : Nat) : Fun Try.prog 20 (laws_eqPlaneS.e k).G := laws_eqPlaneS.ok1 k ⟨laws_eqPlane.ok k, trivial⟩

noncomputable def laws_eqPlaneSS.H4 : Hd := ⟨[], [0, 1, 5], [], [], []⟩
@[reducible] def laws_eqPlaneSS.A4 : Type := (((List (List S4)) × (List (List S4)) × Int × Unit) × (Unit))
noncomputable def laws_eqPlaneSS.Z4 : SC laws_eqPlaneSS.A4 := sC laws_eqPlaneSS.H4 (eCons 0 (tP (aSl .rows)) (eCons 1 (tP (aSl .rows)) (eCons 5 (tP (aI .i64)) eNil))) bNil
@[reducible] def laws_eqPlaneSS.B4 : Type := ((Bool × Unit) × (Unit)) ⊕ ((Unit) × (Unit))
noncomputable def laws_eqPlaneSS.X4 : XC laws_eqPlaneSS.B4 := xOr (xRet (sC ⟨[], [4], [], [], []⟩ (eCons 4 (tP aB) eNil) bNil)) (xExit 0 (sC ⟨[], [], [], [], []⟩ eNil bNil))
noncomputable def laws_eqPlaneSS.s4 (k : Nat)  (J : (List (List S4)) → (List (List S4)) → Int → Option laws_eqPlaneSS.B4) (x0 : List (List S4)) (x1 : List (List S4)) (x5 : Int) : Option laws_eqPlaneSS.B4 :=
  if (decide (x5 < (x0.length : Int))) = true then (if 0 ≤ x5 then (if x5 < (x0.length : Int) then (if 0 ≤ x5 then (if x5 < (x1.length : Int) then ((laws_eqPlaneS.f k  (rd x0 x5) (rd x1 x5)).bind fun t1 => if (!t1) = true then (some (.inl ((false, ()), (())))) else (J x0 x1 (W (x5 + 1)))) else none) else none) else none) else none) else (some (.inr ((()), (()))))
noncomputable def laws_eqPlaneSS.l4 (k : Nat)  : Nat → (List (List S4)) → (List (List S4)) → Int → Option laws_eqPlaneSS.B4
  | 0, _, _, _ => none
  | n + 1, x0, x1, x5 => laws_eqPlaneSS.s4 k (laws_eqPlaneSS.l4 k n) x0 x1 x5
noncomputable def laws_eqPlaneSS.f (k : Nat) (a0 : List (List S4)) (a1 : List (List S4)) : Option Bool :=
  if ((a0.length : Int) != (a1.length : Int)) = true then (some false) else ((laws_eqPlaneSS.l4 k k a0 a1 0).bind fun | .inl r2 => (some r2.1.1) | .inr x3 => (some true))
noncomputable def laws_eqPlaneSS.e (k : Nat) : FE := { α := (List (List S4)) × (List (List S4)) × Unit, β := Bool, args := (lCons (aSl .rows) (lCons (aSl .rows) lNil)), ret := (rOne aB), f := fun p => laws_eqPlaneSS.f k p.1 p.2.1 }
noncomputable def laws_eqPlaneSS.c (k : Nat) : List (Nat × CE) := [(20, .fn (laws_eqPlaneS.e k))]
noncomputable def laws_eqPlaneSS.bd : Code := match Try.f8.body with | some c => c | none => .skip
noncomputable def laws_eqPlaneSS.e4 (k : Nat) : LE := { H := laws_eqPlaneSS.H4, α := laws_eqPlaneSS.A4, β := laws_eqPlaneSS.B4, st := laws_eqPlaneSS.Z4, xt := laws_eqPlaneSS.X4, f := fun p => laws_eqPlaneSS.l4 k k p.1.1 p.1.2.1 p.1.2.2.1 }
noncomputable def laws_eqPlaneSS.g (k : Nat) : List (Nat × LE) := [(4, laws_eqPlaneSS.e4 k)]
theorem laws_eqPlaneSS.t4 (k : Nat) (I : S2 → Option laws_eqPlaneSS.B4) (x0 : List (List S4)) (x1 : List (List S4)) (x5 : Int) : stepOf (mkCx Try.prog (laws_eqPlaneSS.c k) (laws_eqPlaneSS.g k) : Cx laws_eqPlaneSS.B4) (loopAt laws_eqPlaneSS.bd 0) laws_eqPlaneSS.H4 laws_eqPlaneSS.X4.dec I (laws_eqPlaneSS.Z4.enc ((x0, x1, x5, ()), (()))) = laws_eqPlaneSS.s4 k (fun x0 x1 x5 => I (laws_eqPlaneSS.Z4.enc ((x0, x1, x5, ()), (())))) x0 x1 x5 := by kernel_rfl
theorem laws_eqPlaneSS.i4 (k : Nat) : ∀ (n : Nat) (x0 : List (List S4)) (x1 : List (List S4)) (x5 : Int), iter (evCode (mkCx Try.prog (laws_eqPlaneSS.c k) (laws_eqPlaneSS.g k) : Cx laws_eqPlaneSS.B4) (loopAt laws_eqPlaneSS.bd 0)) laws_eqPlaneSS.H4 laws_eqPlaneSS.X4.dec n (laws_eqPlaneSS.Z4.enc ((x0, x1, x5, ()), (()))) = laws_eqPlaneSS.l4 k n x0 x1 x5
  | 0, _, _, _ => rfl
  | n + 1, x0, x1, x5 => ((iter_step _ _ _ _ n _).trans (laws_eqPlaneSS.t4 k _ x0 x1 x5)).trans (congrArg (fun J => laws_eqPlaneSS.s4 k J x0 x1 x5) (funext fun x0 => funext fun x1 => funext fun x5 => laws_eqPlaneSS.i4 k n x0 x1 x5))
theorem laws_eqPlaneSS.to4 (k : Nat) (hC : AllFun Try.prog (laws_eqPlaneSS.c k)) : LoopTo Try.prog 27 (laws_eqPlaneSS.e4 k) (loopAt laws_eqPlaneSS.bd 0) := loop_to mixed hC (by kernel_rfl) (loops_all 0 (by kernel_rfl) fun i hi => absurd hi (Nat.not_lt_zero i)) fun a b h => ⟨k, (laws_eqPlaneSS.i4 k k a.1.1 a.1.2.1 a.1.2.2.1).trans h⟩
theorem laws_eqPlaneSS.link (k : Nat) (a0 : List (List S4)) (a1 : List (List S4)) : evFun (mkCx Try.prog (laws_eqPlaneSS.c k) (laws_eqPlaneSS.g k) : Cx Bool) Try.f8 ((laws_eqPlaneSS.e k).args.enc (a0, a1, ())) (laws_eqPlaneSS.e k).ret.dec = laws_eqPlaneSS.f k a0 a1 := by kernel_rfl
theorem laws_eqPlaneSS.ok1 (k : Nat) (hC : AllFun Try.prog (laws_eqPlaneSS.c k)) : Fun Try.prog 8 (laws_eqPlaneSS.e k).G := fun_ok mixed (body := laws_eqPlaneSS.bd) Try.func8 (by kernel_rfl) (by kernel_rfl) (by kernel_rfl) hC (loops_all 1 (by kernel_rfl) fun i hi => by obtain rfl : i = 0 := Nat.lt_one_iff.1 hi; exact ⟨laws_eqPlaneSS.e4 k, by kernel_rfl, laws_eqPlaneSS.to4 k hC⟩) (laws_eqPlaneSS.e k) (fun a => Nat.le_of_ble_eq_true (by kernel_rfl)) fun a b h => (laws_eqPlaneSS.link k a.1 a.2.1).trans h
theorem laws_eqPlaneSS.ok (k : Nat) : Fun Try.prog 8 (laws_eqPlaneSS.e k).G := laws_eqPlaneSS.ok1 k ⟨laws_eqPlaneS.ok k, trivial⟩

noncomputable def laws_eqSolidS.H4 : Hd := ⟨[], [0, 1, 5], [], [], []⟩
@[reducible] def laws_eqSolidS.A4 : Type := (((List Tree) × (List Tree) × Int × Unit) × (Unit))
noncomputable def laws_eqSolidS.Z4 : SC laws_eqSolidS.A4 := sC laws_eqSolidS.H4 (eCons 0 (tP (aSl .tree)) (eCons 1 (tP (aSl .tree)) (eCons 5 (tP (aI .i64)) eNil))) bNil
@[reducible] def laws_eqSolidS.B4 : Type := ((Bool × Unit) × (Unit)) ⊕ ((Unit) × (Unit))
noncomputable def laws_eqSolidS.X4 : XC laws_eqSolidS.B4 := xOr (xRet (sC ⟨[], [4], [], [], []⟩ (eCons 4 (tP aB) eNil) bNil)) (xExit 0 (sC ⟨[], [], [], [], []⟩ eNil bNil))
noncomputable def laws_eqSolidS.s4 (k : Nat) (self9 : Tree → Tree → Option Bool) (self22 : (List Tree) → (List Tree) → Option Bool) (J : (List Tree) → (List Tree) → Int → Option laws_eqSolidS.B4) (x0 : List Tree) (x1 : List Tree) (x5 : Int) : Option laws_eqSolidS.B4 :=
  if (decide (x5 < (x0.length : Int))) = true then (if 0 ≤ x5 then (if x5 < (x0.length : Int) then (if 0 ≤ x5 then (if x5 < (x1.length : Int) then ((self9  (T1 (rd x0 x5)) (T1 (rd x1 x5))).bind fun t1 => if (!t1) = true then (some (.inl ((false, ()), (())))) else (J x0 x1 (W (x5 + 1)))) else none) else none) else none) else none) else (some (.inr ((()), (()))))
noncomputable def laws_eqSolidS.l4 (k : Nat) (self9 : Tree → Tree → Option Bool) (self22 : (List Tree) → (List Tree) → Option Bool) : Nat → (List Tree) → (List Tree) → Int → Option laws_eqSolidS.B4
  | 0, _, _, _ => none
  | n + 1, x0, x1, x5 => laws_eqSolidS.s4 k self9 self22 (laws_eqSolidS.l4 k self9 self22 n) x0 x1 x5
noncomputable def laws_eqSolidS.fs (k : Nat) (self9 : Tree → Tree → Option Bool) (self22 : (List Tree) → (List Tree) → Option Bool) (a0 : List Tree) (a1 : List Tree) : Option Bool :=
  if ((a0.length : Int) != (a1.length : Int)) = true then (some false) else ((laws_eqSolidS.l4 k self9 self22 k a0 a1 0).bind fun | .inl r2 => (some r2.1.1) | .inr x3 => (some true))
noncomputable def laws_eqSolid.fs (k : Nat) (self9 : Tree → Tree → Option Bool) (self22 : (List Tree) → (List Tree) → Option Bool) (a0 : Tree) (a1 : Tree) : Option Bool :=
  if (!(a0.inn == a1.inn)) = true then (some false) else ((laws_eqPlane.f k  a0.p a1.p).bind fun t1 => if (!t1) = true then (some false) else ((self22  a0.kids a1.kids).bind fun t2 => if (!t2) = true then (some false) else (some true)))
mutual
noncomputable def laws_eqSolidS.f : Nat → (List Tree) → (List Tree) → Option Bool
  | 0, _, _ => none
  | k + 1, a0, a1 => laws_eqSolidS.fs k (laws_eqSolid.f k) (laws_eqSolidS.f k) a0 a1
noncomputable def laws_eqSolid.f : Nat → Tree → Tree → Option Bool
  | 0, _, _ => none
  | k + 1, a0, a1 => laws_eqSolid.fs k (laws_eqSolid.f k) (laws_eqSolidS.f k) a0 a1
end
theorem laws_eqSolidS.fS (k : Nat) (a0 : List Tree) (a1 : List Tree) : laws_eqSolidS.f (k + 1) a0 a1 = laws_eqSolidS.fs k (laws_eqSolid.f k) (laws_eqSolidS.f k) a0 a1 := by first | rfl | rw [laws_eqSolidS.f]
theorem laws_eqSolid.fS (k : Nat) (a0 : Tree) (a1 : Tree) : laws_eqSolid.f (k + 1) a0 a1 = laws_eqSolid.fs k (laws_eqSolid.f k) (laws_eqSolidS.f k) a0 a1 := by first | rfl | rw [laws_eqSolid.f]
noncomputable def laws_eqSolidS.e (k : Nat) : FE := { α := (List Tree) × (List Tree) × Unit, β := Bool, args := (lCons (aSl .tree) (lCons (aSl .tree) lNil)), ret := (rOne aB), f := fun p => laws_eqSolidS.f k p.1 p.2.1 }
noncomputable def laws_eqSolid.e (k : Nat) : FE := { α := Tree × Tree × Unit, β := Bool, args := (lCons aTree (lCons aTree lNil)), ret := (rOne aB), f := fun p => laws_eqSolid.f k p.1 p.2.1 }
noncomputable def laws_eqSolidS.c (k : Nat) : List (Nat × CE) := [(9, .fn (laws_eqSolid.e k))]
noncomputable def laws_eqSolidS.bd : Code := match Try.f22.body with | some c => c | none => .skip
noncomputable def laws_eqSolidS.e4 (k : Nat) : LE := { H := laws_eqSolidS.H4, α := laws_eqSolidS.A4, β := laws_eqSolidS.B4, st := laws_eqSolidS.Z4, xt := laws_eqSolidS.X4, f := fun p => laws_eqSolidS.l4 k (laws_eqSolid.f k) (laws_eqSolidS.f k) k p.1.1 p.1.2.1 p.1.2.2.1 }
noncomputable def laws_eqSolidS.g (k : Nat) : List (Nat × LE) := [(4, laws_eqSolidS.e4 k)]
theorem laws_eqSolidS.t4 (k : Nat) (I : S2 → Option laws_eqSolidS.B4) (x0 : List Tree) (x1 : List Tree) (x5 : Int) : stepOf (mkCx Try.prog (laws_eqSolidS.c k) (laws_eqSolidS.g k) : Cx laws_eqSolidS.B4) (loopAt laws_eqSolidS.bd 0) laws_eqSolidS.H4 laws_eqSolidS.X4.dec I (laws_eqSolidS.Z4.enc ((x0, x1, x5, ()), (()))) = laws_eqSolidS.s4 k (laws_eqSolid.f k) (laws_eqSolidS.f k) (fun x0 x1 x5 => I (laws_eqSolidS.Z4.enc ((x0, x1, x5, ()), (())))) x0 x1 x5 := by kernel_rfl
theorem laws_eqSolidS.i4 (k : Nat) : ∀ (n : Nat) (x0 : List Tree) (x1 : List Tree) (x5 : Int), iter (evCode (mkCx Try.prog (laws_eqSolidS.c k) (laws_eqSolidS.g k) : Cx laws_eqSolidS.B4) (loopAt laws_eqSolidS.bd 0)) laws_eqSolidS.H4 laws_eqSolidS.X4.dec n (laws_eqSolidS.Z4.enc ((x0, x1, x5, ()), (()))) = laws_eqSolidS.l4 k (laws_eqSolid.f k) (laws_eqSolidS.f k) n x0 x1 x5
  | 0, _, _, _ => rfl
  | n + 1, x0, x1, x5 => ((iter_step _ _ _ _ n _).trans (laws_eqSolidS.t4 k _ x0 x1 x5)).trans (congrArg (fun J => laws_eqSolidS.s4 k (laws_eqSolid.f k) (laws_eqSolidS.f k) J x0 x1 x5) (funext fun x0 => funext fun x1 => funext fun x5 => laws_eqSolidS.i4 k n x0 x1 x5))
theorem laws_eqSolidS.to4 (k : Nat) (hC : AllFun Try.prog (laws_eqSolidS.c k)) : LoopTo Try.prog 27 (laws_eqSolidS.e4 k) (loopAt laws_eqSolidS.bd 0) := loop_to mixed hC (by kernel_rfl) (loops_all 0 (by kernel_rfl) fun i hi => absurd hi (Nat.not_lt_zero i)) fun a b h => ⟨k, (laws_eqSolidS.i4 k k a.1.1 a.1.2.1 a.1.2.2.1).trans h⟩
theorem laws_eqSolidS.link (k : Nat) (a0 : List Tree) (a1 : List Tree) : evFun (mkCx Try.prog (laws_eqSolidS.c k) (laws_eqSolidS.g k) : Cx Bool) Try.f22 ((laws_eqSolidS.e (k + 1)).args.enc (a0, a1, ())) (laws_eqSolidS.e (k + 1)).ret.dec = laws_eqSolidS.fs k (laws_eqSolid.f k) (laws_eqSolidS.f k) a0 a1 := by kernel_rfl
theorem laws_eqSolidS.ok1 (k : Nat) (hC : AllFun Try.prog (laws_eqSolidS.c k)) : Fun Try.prog 22 (laws_eqSolidS.e (k + 1)).G := fun_ok mixed (body := laws_eqSolidS.bd) Try.func22 (by kernel_rfl) (by kernel_rfl) (by kernel_rfl) hC (loops_all 1 (by kernel_rfl) fun i hi => by obtain rfl : i = 0 := Nat.lt_one_iff.1 hi; exact ⟨laws_eqSolidS.e4 k, by kernel_rfl, laws_eqSolidS.to4 k hC⟩) (laws_eqSolidS.e (k + 1)) (fun a => Nat.le_of_ble_eq_true (by kernel_rfl)) fun a b h => (laws_eqSolidS.link k a.1 a.2.1).trans ((laws_eqSolidS.fS k a.1 a.2.1).symm.trans h)
noncomputable def laws_eqSolid.c (k : Nat) : List (Nat × CE) := [(21, .fn (laws_eqPlane.e k)), (22, .fn (laws_eqSolidS.e k))]
noncomputable def laws_eqSolid.bd : Code := match Try.f9.body with | some c => c | none => .skip
noncomputable def laws_eqSolid.g (k : Nat) : List (Nat × LE) := []
theorem laws_eqSolid.link (k : Nat) (a0 : Tree) (a1 : Tree) : evFun (mkCx Try.prog (laws_eqSolid.c k) (laws_eqSolid.g k) : Cx Bool) Try.f9 ((laws_eqSolid.e (k + 1)).args.enc (a0, a1, ())) (laws_eqSolid.e (k + 1)).ret.dec = laws_eqSolid.fs k (laws_eqSolid.f k) (laws_eqSolidS.f k) a0 a1 := by kernel_rfl
theorem laws_eqSolid.ok1 (k : Nat) (hC : AllFun Try.prog (laws_eqSolid.c k)) : Fun Try.prog 9 (laws_eqSolid.e (k + 1)).G := fun_ok mixed (body := laws_eqSolid.bd) Try.func9 (by kernel_rfl) (by kernel_rfl) (by kernel_rfl) hC (loops_all 0 (by kernel_rfl) fun i hi => absurd hi (Nat.not_lt_zero i)) (laws_eqSolid.e (k + 1)) (fun a => Nat.le_of_ble_eq_true (by kernel_rfl)) fun a b h => (laws_eqSolid.link k a.1 a.2.1).trans ((laws_eqSolid.fS k a.1 a.2.1).symm.trans h)
theorem laws_eqSolidS.okk : ∀ k, Fun Try.prog 22 (laws_eqSolidS.e k).G ∧ Fun Try.prog 9 (laws_eqSolid.e k).G
  | 0 => ⟨fun_zero (by kernel_rfl) fun _ => rfl, fun_zero (by kernel_rfl) fun _ => rfl⟩
  | k + 1 => have h := laws_eqSolidS.okk k; ⟨laws_eqSolidS.ok1 k ⟨h.2, trivial⟩, laws_eqSolid.ok1 k ⟨laws_eqPlane.ok k, h.1, trivial⟩⟩
theorem laws_eqSolidS.ok (k : Nat) : Fun Try.prog 22 (laws_eqSolidS.e k).G := (laws_eqSolidS.okk k).1
theorem laws_eqSolid.ok (k : Nat) : Fun Try.prog 9 (laws_eqSolid.e k).G := (laws_eqSolidS.okk k).2

end Go.Proofs.Ytalkkenkeilmpaa.G
