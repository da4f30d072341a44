/- Go functions told as plain Lean functions; that the code does what these tell. Printed by a program of the session (evp.py). -/
import Derived.Test.YtfgaeenlnkioaaaEv16
import Derived.Test.YtfgaeenlnkioaaaG1
namespace Go.Proofs.Ytfgaeenlnkioaaa.G
open Go Go.RowKit Go.Proofs Go.Proofs.Ytfgaeenlnkioaaa.Ev
set_option linter.unusedVariables false
set_option maxRecDepth 100000

noncomputable def impl_weighs.H4 : Hd := ⟨[], [1, 5, 6, 13, 14, 15], []⟩
@[reducible] def impl_weighs.A4 : Type := (((List Int) × Int × Int × (List Int) × Int × Int × Unit) × (Unit))
noncomputable def impl_weighs.Z4 : SC impl_weighs.A4 := sC impl_weighs.H4 (eCons 1 (tP (aSl (.i .i64))) (eCons 5 (tP (aI .i64)) (eCons 6 (tP (aI .i64)) (eCons 13 (tP (aSl (.i .i64))) (eCons 14 (tP (aI .i64)) (eCons 15 (tP (aI .i64)) eNil)))))) bNil
@[reducible] def impl_weighs.B4 : Type := ((Bool × Unit) × (Unit)) ⊕ ((Int × Int × Unit) × (Unit))
noncomputable def impl_weighs.X4 : XC impl_weighs.B4 := xOr (xRet (sC ⟨[], [4], []⟩ (eCons 4 (tP aB) eNil) bNil)) (xExit 0 (sC ⟨[], [5, 6], []⟩ (eCons 5 (tP (aI .i64)) (eCons 6 (tP (aI .i64)) eNil)) bNil))
noncomputable def impl_weighs.s4 (k : Nat)  (J : (List Int) → Int → Int → (List Int) → Int → Int → Option impl_weighs.B4) (x1 : List Int) (x5 : Int) (x6 : Int) (x13 : List Int) (x14 : Int) (x15 : Int) : Option impl_weighs.B4 :=
  if (decide (x15 < x14)) = true then (if 0 ≤ x15 then (if x15 < (x13.length : Int) then (if (x5 == 0) = true then (some (.inl ((false, ()), (())))) else ((impl_sign.f k  (rd x13 x15)).bind fun t2 => if (t2 != x5) = true then (some (.inl ((false, ()), (())))) else (if 0 ≤ x15 then (if x15 < (x1.length : Int) then (J x1 x5 (W (x6 + (W ((rd x13 x15) * (rd x1 x15))))) x13 x14 (W (x15 + 1))) else none) else none))) else none) else none) else (some (.inr ((x5, x6, ()), (()))))
noncomputable def impl_weighs.l4 (k : Nat)  : Nat → (List Int) → Int → Int → (List Int) → Int → Int → Option impl_weighs.B4
  | 0, _, _, _, _, _, _ => none
  | n + 1, x1, x5, x6, x13, x14, x15 => impl_weighs.s4 k (impl_weighs.l4 k n) x1 x5 x6 x13 x14 x15
noncomputable def impl_weighs.f (k : Nat) (a0 : List Int) (a1 : List Int) : Option Bool :=
  if 0 ≤ 0 then (if 0 < (a0.length : Int) then ((impl_sign.f k  (rd a0 0)).bind fun t1 => (impl_weighs.l4 k k a1 t1 0 a0 (a0.length : Int) 0).bind fun | .inl r3 => (some r3.1.1) | .inr x4 => (some (decide ((W (x4.1.2.1 * x4.1.1)) ≤ 0)))) else none) else none
noncomputable def impl_weighs.e (k : Nat) : FE := { α := (List Int) × (List Int) × Unit, β := Bool, args := (lCons (aSl (.i .i64)) (lCons (aSl (.i .i64)) lNil)), ret := (rOne aB), f := fun p => impl_weighs.f k p.1 p.2.1 }
noncomputable def impl_weighs.c (k : Nat) : List (Nat × CE) := [(131, .fn (impl_sign.e k))]
noncomputable def impl_weighs.bd : Code := match Try.f127.body with | some c => c | none => .skip
noncomputable def impl_weighs.e4 (k : Nat) : LE := { H := impl_weighs.H4, α := impl_weighs.A4, β := impl_weighs.B4, st := impl_weighs.Z4, xt := impl_weighs.X4, f := fun p => impl_weighs.l4 k k p.1.1 p.1.2.1 p.1.2.2.1 p.1.2.2.2.1 p.1.2.2.2.2.1 p.1.2.2.2.2.2.1 }
noncomputable def impl_weighs.g (k : Nat) : List (Nat × LE) := [(4, impl_weighs.e4 k)]
theorem impl_weighs.t4 (k : Nat) (I : S2 → Option impl_weighs.B4) (x1 : List Int) (x5 : Int) (x6 : Int) (x13 : List Int) (x14 : Int) (x15 : Int) : stepOf (mkCx Try.prog (impl_weighs.c k) (impl_weighs.g k) : Cx impl_weighs.B4) (loopAt impl_weighs.bd 0) impl_weighs.H4 impl_weighs.X4.dec I (impl_weighs.Z4.enc ((x1, x5, x6, x13, x14, x15, ()), (()))) = impl_weighs.s4 k (fun x1 x5 x6 x13 x14 x15 => I (impl_weighs.Z4.enc ((x1, x5, x6, x13, x14, x15, ()), (())))) x1 x5 x6 x13 x14 x15 := by kernel_rfl
theorem impl_weighs.i4 (k : Nat) : ∀ (n : Nat) (x1 : List Int) (x5 : Int) (x6 : Int) (x13 : List Int) (x14 : Int) (x15 : Int), iter (evCode (mkCx Try.prog (impl_weighs.c k) (impl_weighs.g k) : Cx impl_weighs.B4) (loopAt impl_weighs.bd 0)) impl_weighs.H4 impl_weighs.X4.dec n (impl_weighs.Z4.enc ((x1, x5, x6, x13, x14, x15, ()), (()))) = impl_weighs.l4 k n x1 x5 x6 x13 x14 x15
  | 0, _, _, _, _, _, _ => rfl
  | n + 1, x1, x5, x6, x13, x14, x15 => ((iter_step _ _ _ _ n _).trans (impl_weighs.t4 k _ x1 x5 x6 x13 x14 x15)).trans (congrArg (fun J => impl_weighs.s4 k J x1 x5 x6 x13 x14 x15) (funext fun x1 => funext fun x5 => funext fun x6 => funext fun x13 => funext fun x14 => funext fun x15 => impl_weighs.i4 k n x1 x5 x6 x13 x14 x15))
theorem impl_weighs.to4 (k : Nat) (hC : AllFun Try.prog (impl_weighs.c k)) : LoopTo Try.prog 41 (impl_weighs.e4 k) (loopAt impl_weighs.bd 0) := loop_to mixed hC (by kernel_rfl) (loops_all 0 (by kernel_rfl) fun i hi => absurd hi (Nat.not_lt_zero i)) fun a b h => ⟨k, (impl_weighs.i4 k k a.1.1 a.1.2.1 a.1.2.2.1 a.1.2.2.2.1 a.1.2.2.2.2.1 a.1.2.2.2.2.2.1).trans h⟩
theorem impl_weighs.link (k : Nat) (a0 : List Int) (a1 : List Int) : evFun (mkCx Try.prog (impl_weighs.c k) (impl_weighs.g k) : Cx Bool) Try.f127 ((impl_weighs.e k).args.enc (a0, a1, ())) (impl_weighs.e k).ret.dec = impl_weighs.f k a0 a1 := by kernel_rfl
theorem impl_weighs.ok1 (k : Nat) (hC : AllFun Try.prog (impl_weighs.c k)) : Fun Try.prog 127 (impl_weighs.e k).G := fun_ok mixed (body := impl_weighs.bd) Try.func127 (by kernel_rfl) (by kernel_rfl) (by kernel_rfl) hC (loops_all 1 (by kernel_rfl) fun i hi => by obtain rfl : i = 0 := Nat.lt_one_iff.1 hi; exact ⟨impl_weighs.e4 k, by kernel_rfl, impl_weighs.to4 k hC⟩) (impl_weighs.e k) (fun a => Nat.le_of_ble_eq_true (by kernel_rfl)) fun a b h => (impl_weighs.link k a.1 a.2.1).trans h
theorem impl_weighs.ok (k : Nat) : Fun Try.prog 127 (impl_weighs.e k).G := impl_weighs.ok1 k ⟨impl_sign.ok k, trivial⟩

noncomputable def impl_clash3.f (k : Nat) (a0 : S4) (a1 : S4) (a2 : S4) : Option Bool :=
  (impl_normal.f k  a0).bind fun t1 => (impl_normal.f k  a1).bind fun t2 => (impl_normal.f k  a2).bind fun t3 => (impl_det.f k  t1 t2 t3).bind fun t4 => if (t4 != 0) = true then (some false) else ((impl_crossOf.f k  t1 t2).bind fun t5 => (impl_crossOf.f k  t2 t3).bind fun t6 => (impl_dot.f k  t6 t5).bind fun t7 => (impl_crossOf.f k  t3 t1).bind fun t8 => (impl_dot.f k  t8 t5).bind fun t9 => (impl_dot.f k  t5 t5).bind fun t10 => (impl_weighs.f k  ([t7, t9, t10] : List Int) ([a0.d, a1.d, a2.d] : List Int)).bind fun t11 => some t11)
noncomputable def impl_clash3.e (k : Nat) : FE := { α := S4 × S4 × S4 × Unit, β := Bool, args := (lCons aS4 (lCons aS4 (lCons aS4 lNil))), ret := (rOne aB), f := fun p => impl_clash3.f k p.1 p.2.1 p.2.2.1 }
noncomputable def impl_clash3.c (k : Nat) : List (Nat × CE) := [(124, .fn (impl_normal.e k)), (125, .fn (impl_det.e k)), (126, .fn (impl_crossOf.e k)), (128, .fn (impl_dot.e k)), (127, .fn (impl_weighs.e k))]
noncomputable def impl_clash3.bd : Code := match Try.f110.body with | some c => c | none => .skip
noncomputable def impl_clash3.g (k : Nat) : List (Nat × LE) := []
theorem impl_clash3.link (k : Nat) (a0 : S4) (a1 : S4) (a2 : S4) : evFun (mkCx Try.prog (impl_clash3.c k) (impl_clash3.g k) : Cx Bool) Try.f110 ((impl_clash3.e k).args.enc (a0, a1, a2, ())) (impl_clash3.e k).ret.dec = impl_clash3.f k a0 a1 a2 := by kernel_rfl
theorem impl_clash3.ok1 (k : Nat) (hC : AllFun Try.prog (impl_clash3.c k)) : Fun Try.prog 110 (impl_clash3.e k).G := fun_ok mixed (body := impl_clash3.bd) Try.func110 (by kernel_rfl) (by kernel_rfl) (by kernel_rfl) hC (loops_all 0 (by kernel_rfl) fun i hi => absurd hi (Nat.not_lt_zero i)) (impl_clash3.e k) (fun a => Nat.le_of_ble_eq_true (by kernel_rfl)) fun a b h => (impl_clash3.link k a.1 a.2.1 a.2.2.1).trans h
theorem impl_clash3.ok (k : Nat) : Fun Try.prog 110 (impl_clash3.e k).G := impl_clash3.ok1 k ⟨impl_normal.ok k, impl_det.ok k, impl_crossOf.ok k, impl_dot.ok k, impl_weighs.ok k, trivial⟩

noncomputable def impl_det3.f (k : Nat) (a0 : S4) (a1 : S4) (a2 : S4) : Option Int :=
  (impl_normal.f k  a0).bind fun t1 => (impl_normal.f k  a1).bind fun t2 => (impl_normal.f k  a2).bind fun t3 => (impl_det.f k  t1 t2 t3).bind fun t4 => some t4
noncomputable def impl_det3.e (k : Nat) : FE := { α := S4 × S4 × S4 × Unit, β := Int, args := (lCons aS4 (lCons aS4 (lCons aS4 lNil))), ret := (rOne (aI .i64)), f := fun p => impl_det3.f k p.1 p.2.1 p.2.2.1 }
noncomputable def impl_det3.c (k : Nat) : List (Nat × CE) := [(124, .fn (impl_normal.e k)), (125, .fn (impl_det.e k))]
noncomputable def impl_det3.bd : Code := match Try.f129.body with | some c => c | none => .skip
noncomputable def impl_det3.g (k : Nat) : List (Nat × LE) := []
theorem impl_det3.link (k : Nat) (a0 : S4) (a1 : S4) (a2 : S4) : evFun (mkCx Try.prog (impl_det3.c k) (impl_det3.g k) : Cx Int) Try.f129 ((impl_det3.e k).args.enc (a0, a1, a2, ())) (impl_det3.e k).ret.dec = impl_det3.f k a0 a1 a2 := by kernel_rfl
theorem impl_det3.ok1 (k : Nat) (hC : AllFun Try.prog (impl_det3.c k)) : Fun Try.prog 129 (impl_det3.e k).G := fun_ok mixed (body := impl_det3.bd) Try.func129 (by kernel_rfl) (by kernel_rfl) (by kernel_rfl) hC (loops_all 0 (by kernel_rfl) fun i hi => absurd hi (Nat.not_lt_zero i)) (impl_det3.e k) (fun a => Nat.le_of_ble_eq_true (by kernel_rfl)) fun a b h => (impl_det3.link k a.1 a.2.1 a.2.2.1).trans h
theorem impl_det3.ok (k : Nat) : Fun Try.prog 129 (impl_det3.e k).G := impl_det3.ok1 k ⟨impl_normal.ok k, impl_det.ok k, trivial⟩

noncomputable def impl_clash4.f (k : Nat) (a0 : S4) (a1 : S4) (a2 : S4) (a3 : S4) : Option Bool :=
  (impl_det3.f k  a1 a2 a3).bind fun t1 => (impl_det3.f k  a0 a2 a3).bind fun t2 => (impl_det3.f k  a0 a1 a3).bind fun t3 => (impl_det3.f k  a0 a1 a2).bind fun t4 => (impl_weighs.f k  ([t1, (W (0 - t2)), t3, (W (0 - t4))] : List Int) ([a0.d, a1.d, a2.d, a3.d] : List Int)).bind fun t5 => some t5
noncomputable def impl_clash4.e (k : Nat) : FE := { α := S4 × S4 × S4 × S4 × Unit, β := Bool, args := (lCons aS4 (lCons aS4 (lCons aS4 (lCons aS4 lNil)))), ret := (rOne aB), f := fun p => impl_clash4.f k p.1 p.2.1 p.2.2.1 p.2.2.2.1 }
noncomputable def impl_clash4.c (k : Nat) : List (Nat × CE) := [(129, .fn (impl_det3.e k)), (127, .fn (impl_weighs.e k))]
noncomputable def impl_clash4.bd : Code := match Try.f111.body with | some c => c | none => .skip
noncomputable def impl_clash4.g (k : Nat) : List (Nat × LE) := []
theorem impl_clash4.link (k : Nat) (a0 : S4) (a1 : S4) (a2 : S4) (a3 : S4) : evFun (mkCx Try.prog (impl_clash4.c k) (impl_clash4.g k) : Cx Bool) Try.f111 ((impl_clash4.e k).args.enc (a0, a1, a2, a3, ())) (impl_clash4.e k).ret.dec = impl_clash4.f k a0 a1 a2 a3 := by kernel_rfl
theorem impl_clash4.ok1 (k : Nat) (hC : AllFun Try.prog (impl_clash4.c k)) : Fun Try.prog 111 (impl_clash4.e k).G := fun_ok mixed (body := impl_clash4.bd) Try.func111 (by kernel_rfl) (by kernel_rfl) (by kernel_rfl) hC (loops_all 0 (by kernel_rfl) fun i hi => absurd hi (Nat.not_lt_zero i)) (impl_clash4.e k) (fun a => Nat.le_of_ble_eq_true (by kernel_rfl)) fun a b h => (impl_clash4.link k a.1 a.2.1 a.2.2.1 a.2.2.2.1).trans h
theorem impl_clash4.ok (k : Nat) : Fun Try.prog 111 (impl_clash4.e k).G := impl_clash4.ok1 k ⟨impl_det3.ok k, impl_weighs.ok k, trivial⟩

noncomputable def impl_room.H12 : Hd := ⟨[], [0, 3, 6, 8, 11, 12, 13, 23, 24, 25, 36, 37, 38], [3, 6, 8]⟩
@[reducible] def impl_room.A12 : Type := (((List S4) × Unit × Unit × Unit × (List S4) × Int × Int × (List S4) × Int × Int × (List S4) × Int × Int × Unit) × (S4 × S4 × S4 × Unit))
noncomputable def impl_room.Z12 : SC impl_room.A12 := sC impl_room.H12 (eCons 0 (tP (aSl .s4)) (eCons 3 (tRef 3 0) (eCons 6 (tRef 6 0) (eCons 8 (tRef 8 0) (eCons 11 (tP (aSl .s4)) (eCons 12 (tP (aI .i64)) (eCons 13 (tP (aI .i64)) (eCons 23 (tP (aSl .s4)) (eCons 24 (tP (aI .i64)) (eCons 25 (tP (aI .i64)) (eCons 36 (tP (aSl .s4)) (eCons 37 (tP (aI .i64)) (eCons 38 (tP (aI .i64)) eNil))))))))))))) (bCons 3 (xVr cS4) (bCons 6 (xVr cS4) (bCons 8 (xVr cS4) bNil)))
@[reducible] def impl_room.B12 : Type := ((Bool × Unit) × (Unit)) ⊕ (((List S4) × Unit × Unit × (List S4) × Int × Int × (List S4) × Int × Int × Unit) × (S4 × S4 × Unit))
noncomputable def impl_room.X12 : XC impl_room.B12 := xOr (xRet (sC ⟨[], [4], []⟩ (eCons 4 (tP aB) eNil) bNil)) (xExit 4 (sC ⟨[], [0, 3, 6, 11, 12, 13, 23, 24, 25], [3, 6]⟩ (eCons 0 (tP (aSl .s4)) (eCons 3 (tRef 3 0) (eCons 6 (tRef 6 0) (eCons 11 (tP (aSl .s4)) (eCons 12 (tP (aI .i64)) (eCons 13 (tP (aI .i64)) (eCons 23 (tP (aSl .s4)) (eCons 24 (tP (aI .i64)) (eCons 25 (tP (aI .i64)) eNil))))))))) (bCons 3 (xVr cS4) (bCons 6 (xVr cS4) bNil))))
noncomputable def impl_room.s12 (k : Nat)  (J : (List S4) → (List S4) → Int → Int → (List S4) → Int → Int → (List S4) → Int → Int → S4 → S4 → S4 → Option impl_room.B12) (x0 : List S4) (x11 : List S4) (x12 : Int) (x13 : Int) (x23 : List S4) (x24 : Int) (x25 : Int) (x36 : List S4) (x37 : Int) (x38 : Int) (b3 : S4) (b6 : S4) (b8 : S4) : Option impl_room.B12 :=
  if (decide (x38 < x37)) = true then (if 0 ≤ x38 then (if x38 < (x36.length : Int) then ((impl_clash4.f k  (rd x36 x38) b8 b6 b3).bind fun t3 => if t3 = true then (some (.inl ((false, ()), (())))) else (J x0 x11 x12 x13 x23 x24 x25 x36 x37 (W (x38 + 1)) b3 b6 b8)) else none) else none) else (some (.inr ((x0, (), (), x11, x12, x13, x23, x24, x25, ()), (b3, b6, ()))))
noncomputable def impl_room.l12 (k : Nat)  : Nat → (List S4) → (List S4) → Int → Int → (List S4) → Int → Int → (List S4) → Int → Int → S4 → S4 → S4 → Option impl_room.B12
  | 0, _, _, _, _, _, _, _, _, _, _, _, _, _ => none
  | n + 1, x0, x11, x12, x13, x23, x24, x25, x36, x37, x38, b3, b6, b8 => impl_room.s12 k (impl_room.l12 k n) x0 x11 x12 x13 x23 x24 x25 x36 x37 x38 b3 b6 b8
noncomputable def impl_room.H7 : Hd := ⟨[], [0, 3, 6, 11, 12, 13, 23, 24, 25], [3, 6]⟩
@[reducible] def impl_room.A7 : Type := (((List S4) × Unit × Unit × (List S4) × Int × Int × (List S4) × Int × Int × Unit) × (S4 × S4 × Unit))
noncomputable def impl_room.Z7 : SC impl_room.A7 := sC impl_room.H7 (eCons 0 (tP (aSl .s4)) (eCons 3 (tRef 3 0) (eCons 6 (tRef 6 0) (eCons 11 (tP (aSl .s4)) (eCons 12 (tP (aI .i64)) (eCons 13 (tP (aI .i64)) (eCons 23 (tP (aSl .s4)) (eCons 24 (tP (aI .i64)) (eCons 25 (tP (aI .i64)) eNil))))))))) (bCons 3 (xVr cS4) (bCons 6 (xVr cS4) bNil))
@[reducible] def impl_room.B7 : Type := ((Bool × Unit) × (Unit)) ⊕ (((List S4) × Unit × (List S4) × Int × Int × Unit) × (S4 × Unit))
noncomputable def impl_room.X7 : XC impl_room.B7 := xOr (xRet (sC ⟨[], [4], []⟩ (eCons 4 (tP aB) eNil) bNil)) (xExit 2 (sC ⟨[], [0, 3, 11, 12, 13], [3]⟩ (eCons 0 (tP (aSl .s4)) (eCons 3 (tRef 3 0) (eCons 11 (tP (aSl .s4)) (eCons 12 (tP (aI .i64)) (eCons 13 (tP (aI .i64)) eNil))))) (bCons 3 (xVr cS4) bNil)))
noncomputable def impl_room.s7 (k : Nat)  (J : (List S4) → (List S4) → Int → Int → (List S4) → Int → Int → S4 → S4 → Option impl_room.B7) (x0 : List S4) (x11 : List S4) (x12 : Int) (x13 : Int) (x23 : List S4) (x24 : Int) (x25 : Int) (b3 : S4) (b6 : S4) : Option impl_room.B7 :=
  if (decide (x25 < x24)) = true then (if 0 ≤ x25 then (if x25 < (x23.length : Int) then ((impl_clash3.f k  (rd x23 x25) b6 b3).bind fun t2 => if t2 = true then (some (.inl ((false, ()), (())))) else (if 0 ≤ x25 then (if x25 ≤ (x0.length : Int) then ((impl_room.l12 k k x0 x11 x12 x13 x23 x24 x25 (x0.take x25.toNat) ((x0.take x25.toNat).length : Int) 0 b3 b6 (rd x23 x25)).bind fun | .inl r4 => (some (.inl ((r4.1.1, ()), (())))) | .inr x5 => (J x5.1.1 x5.1.2.2.2.1 x5.1.2.2.2.2.1 x5.1.2.2.2.2.2.1 x5.1.2.2.2.2.2.2.1 x5.1.2.2.2.2.2.2.2.1 (W (x5.1.2.2.2.2.2.2.2.2.1 + 1)) x5.2.1 x5.2.2.1)) else none) else none)) else none) else none) else (some (.inr ((x0, (), x11, x12, x13, ()), (b3, ()))))
noncomputable def impl_room.l7 (k : Nat)  : Nat → (List S4) → (List S4) → Int → Int → (List S4) → Int → Int → S4 → S4 → Option impl_room.B7
  | 0, _, _, _, _, _, _, _, _, _ => none
  | n + 1, x0, x11, x12, x13, x23, x24, x25, b3, b6 => impl_room.s7 k (impl_room.l7 k n) x0 x11 x12 x13 x23 x24 x25 b3 b6
noncomputable def impl_room.H2 : Hd := ⟨[], [0, 3, 11, 12, 13], [3]⟩
@[reducible] def impl_room.A2 : Type := (((List S4) × Unit × (List S4) × Int × Int × Unit) × (S4 × Unit))
noncomputable def impl_room.Z2 : SC impl_room.A2 := sC impl_room.H2 (eCons 0 (tP (aSl .s4)) (eCons 3 (tRef 3 0) (eCons 11 (tP (aSl .s4)) (eCons 12 (tP (aI .i64)) (eCons 13 (tP (aI .i64)) eNil))))) (bCons 3 (xVr cS4) bNil)
@[reducible] def impl_room.B2 : Type := ((Bool × Unit) × (Unit)) ⊕ ((Unit) × (Unit))
noncomputable def impl_room.X2 : XC impl_room.B2 := xOr (xRet (sC ⟨[], [4], []⟩ (eCons 4 (tP aB) eNil) bNil)) (xExit 0 (sC ⟨[], [], []⟩ eNil bNil))
noncomputable def impl_room.s2 (k : Nat)  (J : (List S4) → (List S4) → Int → Int → S4 → Option impl_room.B2) (x0 : List S4) (x11 : List S4) (x12 : Int) (x13 : Int) (b3 : S4) : Option impl_room.B2 :=
  if (decide (x13 < x12)) = true then (if 0 ≤ x13 then (if x13 < (x11.length : Int) then ((impl_clash2.f k  (rd x11 x13) b3).bind fun t1 => if t1 = true then (some (.inl ((false, ()), (())))) else (if 0 ≤ x13 then (if x13 ≤ (x0.length : Int) then ((impl_room.l7 k k x0 x11 x12 x13 (x0.take x13.toNat) ((x0.take x13.toNat).length : Int) 0 b3 (rd x11 x13)).bind fun | .inl r6 => (some (.inl ((r6.1.1, ()), (())))) | .inr x7 => (J x7.1.1 x7.1.2.2.1 x7.1.2.2.2.1 (W (x7.1.2.2.2.2.1 + 1)) x7.2.1)) else none) else none)) else none) else none) else (some (.inr ((()), (()))))
noncomputable def impl_room.l2 (k : Nat)  : Nat → (List S4) → (List S4) → Int → Int → S4 → Option impl_room.B2
  | 0, _, _, _, _, _ => none
  | n + 1, x0, x11, x12, x13, b3 => impl_room.s2 k (impl_room.l2 k n) x0 x11 x12 x13 b3
noncomputable def impl_room.f (k : Nat) (a0 : List S4) (a1 : S4) : Option Bool :=
  (impl_room.l2 k k a0 a0 (a0.length : Int) 0 a1).bind fun | .inl r8 => (some r8.1.1) | .inr x9 => (some true)
noncomputable def impl_room.e (k : Nat) : FE := { α := (List S4) × S4 × Unit, β := Bool, args := (lCons (aSl .s4) (lCons aS4 lNil)), ret := (rOne aB), f := fun p => impl_room.f k p.1 p.2.1 }
noncomputable def impl_room.c (k : Nat) : List (Nat × CE) := [(109, .fn (impl_clash2.e k)), (110, .fn (impl_clash3.e k)), (111, .fn (impl_clash4.e k))]
noncomputable def impl_room.bd : Code := match Try.f108.body with | some c => c | none => .skip
noncomputable def impl_room.e12 (k : Nat) : LE := { H := impl_room.H12, α := impl_room.A12, β := impl_room.B12, st := impl_room.Z12, xt := impl_room.X12, f := fun p => impl_room.l12 k k p.1.1 p.1.2.2.2.2.1 p.1.2.2.2.2.2.1 p.1.2.2.2.2.2.2.1 p.1.2.2.2.2.2.2.2.1 p.1.2.2.2.2.2.2.2.2.1 p.1.2.2.2.2.2.2.2.2.2.1 p.1.2.2.2.2.2.2.2.2.2.2.1 p.1.2.2.2.2.2.2.2.2.2.2.2.1 p.1.2.2.2.2.2.2.2.2.2.2.2.2.1 p.2.1 p.2.2.1 p.2.2.2.1 }
noncomputable def impl_room.e7 (k : Nat) : LE := { H := impl_room.H7, α := impl_room.A7, β := impl_room.B7, st := impl_room.Z7, xt := impl_room.X7, f := fun p => impl_room.l7 k k p.1.1 p.1.2.2.2.1 p.1.2.2.2.2.1 p.1.2.2.2.2.2.1 p.1.2.2.2.2.2.2.1 p.1.2.2.2.2.2.2.2.1 p.1.2.2.2.2.2.2.2.2.1 p.2.1 p.2.2.1 }
noncomputable def impl_room.e2 (k : Nat) : LE := { H := impl_room.H2, α := impl_room.A2, β := impl_room.B2, st := impl_room.Z2, xt := impl_room.X2, f := fun p => impl_room.l2 k k p.1.1 p.1.2.2.1 p.1.2.2.2.1 p.1.2.2.2.2.1 p.2.1 }
noncomputable def impl_room.g (k : Nat) : List (Nat × LE) := [(12, impl_room.e12 k), (7, impl_room.e7 k), (2, impl_room.e2 k)]
theorem impl_room.t12 (k : Nat) (I : S2 → Option impl_room.B12) (x0 : List S4) (x11 : List S4) (x12 : Int) (x13 : Int) (x23 : List S4) (x24 : Int) (x25 : Int) (x36 : List S4) (x37 : Int) (x38 : Int) (b3 : S4) (b6 : S4) (b8 : S4) : stepOf (mkCx Try.prog (impl_room.c k) (impl_room.g k) : Cx impl_room.B12) (loopAt (loopAt (loopAt impl_room.bd 0) 0) 0) impl_room.H12 impl_room.X12.dec I (impl_room.Z12.enc ((x0, (), (), (), x11, x12, x13, x23, x24, x25, x36, x37, x38, ()), (b3, b6, b8, ()))) = impl_room.s12 k (fun x0 x11 x12 x13 x23 x24 x25 x36 x37 x38 b3 b6 b8 => I (impl_room.Z12.enc ((x0, (), (), (), x11, x12, x13, x23, x24, x25, x36, x37, x38, ()), (b3, b6, b8, ())))) x0 x11 x12 x13 x23 x24 x25 x36 x37 x38 b3 b6 b8 := by kernel_rfl
theorem impl_room.i12 (k : Nat) : ∀ (n : Nat) (x0 : List S4) (x11 : List S4) (x12 : Int) (x13 : Int) (x23 : List S4) (x24 : Int) (x25 : Int) (x36 : List S4) (x37 : Int) (x38 : Int) (b3 : S4) (b6 : S4) (b8 : S4), iter (evCode (mkCx Try.prog (impl_room.c k) (impl_room.g k) : Cx impl_room.B12) (loopAt (loopAt (loopAt impl_room.bd 0) 0) 0)) impl_room.H12 impl_room.X12.dec n (impl_room.Z12.enc ((x0, (), (), (), x11, x12, x13, x23, x24, x25, x36, x37, x38, ()), (b3, b6, b8, ()))) = impl_room.l12 k n x0 x11 x12 x13 x23 x24 x25 x36 x37 x38 b3 b6 b8
  | 0, _, _, _, _, _, _, _, _, _, _, _, _, _ => rfl
  | n + 1, x0, x11, x12, x13, x23, x24, x25, x36, x37, x38, b3, b6, b8 => ((iter_step _ _ _ _ n _).trans (impl_room.t12 k _ x0 x11 x12 x13 x23 x24 x25 x36 x37 x38 b3 b6 b8)).trans (congrArg (fun J => impl_room.s12 k J x0 x11 x12 x13 x23 x24 x25 x36 x37 x38 b3 b6 b8) (funext fun x0 => funext fun x11 => funext fun x12 => funext fun x13 => funext fun x23 => funext fun x24 => funext fun x25 => funext fun x36 => funext fun x37 => funext fun x38 => funext fun b3 => funext fun b6 => funext fun b8 => impl_room.i12 k n x0 x11 x12 x13 x23 x24 x25 x36 x37 x38 b3 b6 b8))
theorem impl_room.t7 (k : Nat) (I : S2 → Option impl_room.B7) (x0 : List S4) (x11 : List S4) (x12 : Int) (x13 : Int) (x23 : List S4) (x24 : Int) (x25 : Int) (b3 : S4) (b6 : S4) : stepOf (mkCx Try.prog (impl_room.c k) (impl_room.g k) : Cx impl_room.B7) (loopAt (loopAt impl_room.bd 0) 0) impl_room.H7 impl_room.X7.dec I (impl_room.Z7.enc ((x0, (), (), x11, x12, x13, x23, x24, x25, ()), (b3, b6, ()))) = impl_room.s7 k (fun x0 x11 x12 x13 x23 x24 x25 b3 b6 => I (impl_room.Z7.enc ((x0, (), (), x11, x12, x13, x23, x24, x25, ()), (b3, b6, ())))) x0 x11 x12 x13 x23 x24 x25 b3 b6 := by kernel_rfl
theorem impl_room.i7 (k : Nat) : ∀ (n : Nat) (x0 : List S4) (x11 : List S4) (x12 : Int) (x13 : Int) (x23 : List S4) (x24 : Int) (x25 : Int) (b3 : S4) (b6 : S4), iter (evCode (mkCx Try.prog (impl_room.c k) (impl_room.g k) : Cx impl_room.B7) (loopAt (loopAt impl_room.bd 0) 0)) impl_room.H7 impl_room.X7.dec n (impl_room.Z7.enc ((x0, (), (), x11, x12, x13, x23, x24, x25, ()), (b3, b6, ()))) = impl_room.l7 k n x0 x11 x12 x13 x23 x24 x25 b3 b6
  | 0, _, _, _, _, _, _, _, _, _ => rfl
  | n + 1, x0, x11, x12, x13, x23, x24, x25, b3, b6 => ((iter_step _ _ _ _ n _).trans (impl_room.t7 k _ x0 x11 x12 x13 x23 x24 x25 b3 b6)).trans (congrArg (fun J => impl_room.s7 k J x0 x11 x12 x13 x23 x24 x25 b3 b6) (funext fun x0 => funext fun x11 => funext fun x12 => funext fun x13 => funext fun x23 => funext fun x24 => funext fun x25 => funext fun b3 => funext fun b6 => impl_room.i7 k n x0 x11 x12 x13 x23 x24 x25 b3 b6))
theorem impl_room.t2 (k : Nat) (I : S2 → Option impl_room.B2) (x0 : List S4) (x11 : List S4) (x12 : Int) (x13 : Int) (b3 : S4) : stepOf (mkCx Try.prog (impl_room.c k) (impl_room.g k) : Cx impl_room.B2) (loopAt impl_room.bd 0) impl_room.H2 impl_room.X2.dec I (impl_room.Z2.enc ((x0, (), x11, x12, x13, ()), (b3, ()))) = impl_room.s2 k (fun x0 x11 x12 x13 b3 => I (impl_room.Z2.enc ((x0, (), x11, x12, x13, ()), (b3, ())))) x0 x11 x12 x13 b3 := by kernel_rfl
theorem impl_room.i2 (k : Nat) : ∀ (n : Nat) (x0 : List S4) (x11 : List S4) (x12 : Int) (x13 : Int) (b3 : S4), iter (evCode (mkCx Try.prog (impl_room.c k) (impl_room.g k) : Cx impl_room.B2) (loopAt impl_room.bd 0)) impl_room.H2 impl_room.X2.dec n (impl_room.Z2.enc ((x0, (), x11, x12, x13, ()), (b3, ()))) = impl_room.l2 k n x0 x11 x12 x13 b3
  | 0, _, _, _, _, _ => rfl
  | n + 1, x0, x11, x12, x13, b3 => ((iter_step _ _ _ _ n _).trans (impl_room.t2 k _ x0 x11 x12 x13 b3)).trans (congrArg (fun J => impl_room.s2 k J x0 x11 x12 x13 b3) (funext fun x0 => funext fun x11 => funext fun x12 => funext fun x13 => funext fun b3 => impl_room.i2 k n x0 x11 x12 x13 b3))
theorem impl_room.to12 (k : Nat) (hC : AllFun Try.prog (impl_room.c k)) : LoopTo Try.prog 50 (impl_room.e12 k) (loopAt (loopAt (loopAt impl_room.bd 0) 0) 0) := loop_to mixed hC (by kernel_rfl) (loops_all 0 (by kernel_rfl) fun i hi => absurd hi (Nat.not_lt_zero i)) fun a b h => ⟨k, (impl_room.i12 k k a.1.1 a.1.2.2.2.2.1 a.1.2.2.2.2.2.1 a.1.2.2.2.2.2.2.1 a.1.2.2.2.2.2.2.2.1 a.1.2.2.2.2.2.2.2.2.1 a.1.2.2.2.2.2.2.2.2.2.1 a.1.2.2.2.2.2.2.2.2.2.2.1 a.1.2.2.2.2.2.2.2.2.2.2.2.1 a.1.2.2.2.2.2.2.2.2.2.2.2.2.1 a.2.1 a.2.2.1 a.2.2.2.1).trans h⟩
theorem impl_room.to7 (k : Nat) (hC : AllFun Try.prog (impl_room.c k)) : LoopTo Try.prog 50 (impl_room.e7 k) (loopAt (loopAt impl_room.bd 0) 0) := loop_to mixed hC (by kernel_rfl) (loops_all 1 (by kernel_rfl) fun i hi => by obtain rfl : i = 0 := Nat.lt_one_iff.1 hi; exact ⟨impl_room.e12 k, by kernel_rfl, impl_room.to12 k hC⟩) fun a b h => ⟨k, (impl_room.i7 k k a.1.1 a.1.2.2.2.1 a.1.2.2.2.2.1 a.1.2.2.2.2.2.1 a.1.2.2.2.2.2.2.1 a.1.2.2.2.2.2.2.2.1 a.1.2.2.2.2.2.2.2.2.1 a.2.1 a.2.2.1).trans h⟩
theorem impl_room.to2 (k : Nat) (hC : AllFun Try.prog (impl_room.c k)) : LoopTo Try.prog 50 (impl_room.e2 k) (loopAt impl_room.bd 0) := loop_to mixed hC (by kernel_rfl) (loops_all 1 (by kernel_rfl) fun i hi => by obtain rfl : i = 0 := Nat.lt_one_iff.1 hi; exact ⟨impl_room.e7 k, by kernel_rfl, impl_room.to7 k hC⟩) fun a b h => ⟨k, (impl_room.i2 k k a.1.1 a.1.2.2.1 a.1.2.2.2.1 a.1.2.2.2.2.1 a.2.1).trans h⟩
theorem impl_room.link (k : Nat) (a0 : List S4) (a1 : S4) : evFun (mkCx Try.prog (impl_room.c k) (impl_room.g k) : Cx Bool) Try.f108 ((impl_room.e k).args.enc (a0, a1, ())) (impl_room.e k).ret.dec = impl_room.f k a0 a1 := by kernel_rfl
theorem impl_room.ok1 (k : Nat) (hC : AllFun Try.prog (impl_room.c k)) : Fun Try.prog 108 (impl_room.e k).G := fun_ok mixed (body := impl_room.bd) Try.func108 (by kernel_rfl) (by kernel_rfl) (by kernel_rfl) hC (loops_all 1 (by kernel_rfl) fun i hi => by obtain rfl : i = 0 := Nat.lt_one_iff.1 hi; exact ⟨impl_room.e2 k, by kernel_rfl, impl_room.to2 k hC⟩) (impl_room.e k) (fun a => Nat.le_of_ble_eq_true (by kernel_rfl)) fun a b h => (impl_room.link k a.1 a.2.1).trans h
theorem impl_room.ok (k : Nat) : Fun Try.prog 108 (impl_room.e k).G := impl_room.ok1 k ⟨impl_clash2.ok k, impl_clash3.ok k, impl_clash4.ok k, trivial⟩

noncomputable def impl_checker_right.fs (k : Nat) (self72 : Int → Tree → (List S4) → Option (Bool × Int)) (a0 : Int) (a1 : Tree) (a2 : List S4) : Option (Bool × Int) :=
  (impl_Solid_isLeaf.f k  (T1 a1)).bind fun t1 => if t1 = true then (some (((a1.p.a == 0) && ((a1.p.b == 0) && ((a1.p.c == 0) && (a1.p.d == 0)))), a0)) else (if a1.inn = true then (some (false, (W (a0 + 1)))) else (if ((a1.kids.length : Int) != 2) = true then (some (false, (W (a0 + 1)))) else (if (decide ((W (a0 + 1)) > 300)) = true then (some (false, (W (a0 + 1)))) else (if (decide ((a2.length : Int) ≥ 24)) = true then (some (false, (W (a0 + 1)))) else ((impl_PlaneOk.f k  a1.p).bind fun t2 => if (!t2) = true then (some (false, (W (a0 + 1)))) else ((impl_flip.f k  a1.p).bind fun t3 => (impl_room.f k  a2 a1.p).bind fun t4 => if (!t4) = true then (some (false, (W (a0 + 1)))) else ((impl_room.f k  a2 t3).bind fun t5 => if (!t5) = true then (some (false, (W (a0 + 1)))) else (if 0 ≤ 0 then (if 0 < (a1.kids.length : Int) then ((impl_with.f k  a2 a1.p).bind fun t6 => (self72  (W (a0 + 1)) (T1 (rd a1.kids 0)) t6).bind fun t7 => if t7.1 = true then (if 0 ≤ 1 then (if 1 < (a1.kids.length : Int) then ((impl_with.f k  a2 t3).bind fun t8 => (self72  t7.2 (T1 (rd a1.kids 1)) t8).bind fun t9 => some (t9.1, t9.2)) else none) else none) else (some (false, t7.2))) else none) else none))))))))
noncomputable def impl_checker_right.f : Nat → Int → Tree → (List S4) → Option (Bool × Int)
  | 0, _, _, _ => none
  | k + 1, a0, a1, a2 => impl_checker_right.fs k (impl_checker_right.f k) a0 a1 a2
theorem impl_checker_right.fS (k : Nat) (a0 : Int) (a1 : Tree) (a2 : List S4) : impl_checker_right.f (k + 1) a0 a1 a2 = impl_checker_right.fs k (impl_checker_right.f k) a0 a1 a2 := by first | rfl | rw [impl_checker_right.f]
noncomputable def impl_checker_right.e (k : Nat) : FS := { σ := Int, α := Tree × (List S4) × Unit, β := Bool, sk := .var, st := (xVr (cOne (aI .i64))), args := (lCons aTree (lCons (aSl .s4) lNil)), ret := (pOne pB), f := fun s p => impl_checker_right.f k s p.1 p.2.1 }
noncomputable def impl_checker_right.c (k : Nat) : List (Nat × CE) := [(106, .fn (impl_Solid_isLeaf.e k)), (60, .fn (impl_PlaneOk.e k)), (107, .fn (impl_flip.e k)), (108, .fn (impl_room.e k)), (95, .fn (impl_with.e k)), (72, .st (impl_checker_right.e k))]
noncomputable def impl_checker_right.bd : Code := match Try.f72.body with | some c => c | none => .skip
noncomputable def impl_checker_right.g (k : Nat) : List (Nat × LE) := []
theorem impl_checker_right.link (k : Nat) (a0 : Int) (a1 : Tree) (a2 : List S4) : evFunS (mkCx Try.prog (impl_checker_right.c k) (impl_checker_right.g k) : Cx (Bool × Int)) Try.f72 (impl_checker_right.e (k + 1)).sk ((impl_checker_right.e (k + 1)).st.enc a0) ((impl_checker_right.e (k + 1)).args.enc (a1, a2, ())) (impl_checker_right.e (k + 1)).fin = impl_checker_right.fs k (impl_checker_right.f k) a0 a1 a2 := by kernel_rfl
theorem impl_checker_right.ok1 (k : Nat) (hC : AllFun Try.prog (impl_checker_right.c k)) : FunS Try.prog 72 (impl_checker_right.e (k + 1)).sk (impl_checker_right.e (k + 1)).H := fun_okS mixed (body := impl_checker_right.bd) Try.func72 (by kernel_rfl) (by kernel_rfl) (by kernel_rfl) hC (loops_all 0 (by kernel_rfl) fun i hi => absurd hi (Nat.not_lt_zero i)) (impl_checker_right.e (k + 1)) (fun a => Nat.le_of_ble_eq_true (by kernel_rfl)) (Nat.le_of_ble_eq_true (by kernel_rfl)) fun s a b h => (impl_checker_right.link k s a.1 a.2.1).trans ((impl_checker_right.fS k s a.1 a.2.1).symm.trans h)
theorem impl_checker_right.ok : ∀ k, FunS Try.prog 72 (impl_checker_right.e k).sk (impl_checker_right.e k).H
  | 0 => funS_zero (by kernel_rfl) fun _ _ => rfl
  | k + 1 => impl_checker_right.ok1 k ⟨impl_Solid_isLeaf.ok k, impl_PlaneOk.ok k, impl_flip.ok k, impl_room.ok k, impl_with.ok k, impl_checker_right.ok k, trivial⟩

noncomputable def impl_SolidOk.f (k : Nat) (a0 : Tree) : Option Bool :=
  (impl_checker_right.f k  0 (T1 a0) ([] : List S4)).bind fun t1 => some t1.1
noncomputable def impl_SolidOk.e (k : Nat) : FE := { α := Tree × Unit, β := Bool, args := (lCons aTree lNil), ret := (rOne aB), f := fun p => impl_SolidOk.f k p.1 }
noncomputable def impl_SolidOk.c (k : Nat) : List (Nat × CE) := [(72, .st (impl_checker_right.e k))]
noncomputable def impl_SolidOk.bd : Code := match Try.f26.body with | some c => c | none => .skip
noncomputable def impl_SolidOk.g (k : Nat) : List (Nat × LE) := []
theorem impl_SolidOk.link (k : Nat) (a0 : Tree) : evFun (mkCx Try.prog (impl_SolidOk.c k) (impl_SolidOk.g k) : Cx Bool) Try.f26 ((impl_SolidOk.e k).args.enc (a0, ())) (impl_SolidOk.e k).ret.dec = impl_SolidOk.f k a0 := by kernel_rfl
theorem impl_SolidOk.ok1 (k : Nat) (hC : AllFun Try.prog (impl_SolidOk.c k)) : Fun Try.prog 26 (impl_SolidOk.e k).G := fun_ok mixed (body := impl_SolidOk.bd) Try.func26 (by kernel_rfl) (by kernel_rfl) (by kernel_rfl) hC (loops_all 0 (by kernel_rfl) fun i hi => absurd hi (Nat.not_lt_zero i)) (impl_SolidOk.e k) (fun a => Nat.le_of_ble_eq_true (by kernel_rfl)) fun a b h => (impl_SolidOk.link k a.1).trans h
theorem impl_SolidOk.ok (k : Nat) : Fun Try.prog 26 (impl_SolidOk.e k).G := impl_SolidOk.ok1 k ⟨impl_checker_right.ok k, trivial⟩

noncomputable def laws_FnExactSolidOk.f (k : Nat) (a0 : Tree) : Option Bool :=
  (laws_szSolid.f k  (T1 a0) 1048576).bind fun t1 => if (decide (t1 < 0)) = true then (some true) else ((laws_toSolid.f k  (T1 a0)).bind fun t2 => (spec_SolidOk.f k  (T1 t2)).bind fun t3 => (laws_toSolid.f k  (T1 a0)).bind fun t4 => (impl_SolidOk.f k  (T1 t4)).bind fun t5 => if (!(t5 == t3)) = true then (some false) else ((laws_toSolid.f k  (T1 a0)).bind fun t6 => (laws_eqSolid.f k  (T1 t4) (T1 t6)).bind fun t7 => if (!t7) = true then (some false) else (some true)))
noncomputable def laws_FnExactSolidOk.e (k : Nat) : FE := { α := Tree × Unit, β := Bool, args := (lCons aTree lNil), ret := (rOne aB), f := fun p => laws_FnExactSolidOk.f k p.1 }
noncomputable def laws_FnExactSolidOk.c (k : Nat) : List (Nat × CE) := [(21, .fn (laws_szSolid.e k)), (23, .fn (laws_toSolid.e k)), (25, .fn (spec_SolidOk.e k)), (26, .fn (impl_SolidOk.e k)), (18, .fn (laws_eqSolid.e k))]
noncomputable def laws_FnExactSolidOk.bd : Code := match Try.f5.body with | some c => c | none => .skip
noncomputable def laws_FnExactSolidOk.g (k : Nat) : List (Nat × LE) := []
theorem laws_FnExactSolidOk.link (k : Nat) (a0 : Tree) : evFun (mkCx Try.prog (laws_FnExactSolidOk.c k) (laws_FnExactSolidOk.g k) : Cx Bool) Try.f5 ((laws_FnExactSolidOk.e k).args.enc (a0, ())) (laws_FnExactSolidOk.e k).ret.dec = laws_FnExactSolidOk.f k a0 := by kernel_rfl
theorem laws_FnExactSolidOk.ok1 (k : Nat) (hC : AllFun Try.prog (laws_FnExactSolidOk.c k)) : Fun Try.prog 5 (laws_FnExactSolidOk.e k).G := fun_ok mixed (body := laws_FnExactSolidOk.bd) Try.func5 (by kernel_rfl) (by kernel_rfl) (by kernel_rfl) hC (loops_all 0 (by kernel_rfl) fun i hi => absurd hi (Nat.not_lt_zero i)) (laws_FnExactSolidOk.e k) (fun a => Nat.le_of_ble_eq_true (by kernel_rfl)) fun a b h => (laws_FnExactSolidOk.link k a.1).trans h
theorem laws_FnExactSolidOk.ok (k : Nat) : Fun Try.prog 5 (laws_FnExactSolidOk.e k).G := laws_FnExactSolidOk.ok1 k ⟨laws_szSolid.ok k, laws_toSolid.ok k, spec_SolidOk.ok k, impl_SolidOk.ok k, laws_eqSolid.ok k, trivial⟩

noncomputable def spec_NodesOf.f (k : Nat) (a0 : Tree) : Option Int :=
  (spec_SolidOk.f k  (T1 a0)).bind fun t1 => if (!t1) = true then (some 0) else ((spec_l8Count.f k  (T1 a0) 301).bind fun t2 => some t2)
noncomputable def spec_NodesOf.e (k : Nat) : FE := { α := Tree × Unit, β := Int, args := (lCons aTree lNil), ret := (rOne (aI .i64)), f := fun p => spec_NodesOf.f k p.1 }
noncomputable def spec_NodesOf.c (k : Nat) : List (Nat × CE) := [(25, .fn (spec_SolidOk.e k)), (70, .fn (spec_l8Count.e k))]
noncomputable def spec_NodesOf.bd : Code := match Try.f27.body with | some c => c | none => .skip
noncomputable def spec_NodesOf.g (k : Nat) : List (Nat × LE) := []
theorem spec_NodesOf.link (k : Nat) (a0 : Tree) : evFun (mkCx Try.prog (spec_NodesOf.c k) (spec_NodesOf.g k) : Cx Int) Try.f27 ((spec_NodesOf.e k).args.enc (a0, ())) (spec_NodesOf.e k).ret.dec = spec_NodesOf.f k a0 := by kernel_rfl
theorem spec_NodesOf.ok1 (k : Nat) (hC : AllFun Try.prog (spec_NodesOf.c k)) : Fun Try.prog 27 (spec_NodesOf.e k).G := fun_ok mixed (body := spec_NodesOf.bd) Try.func27 (by kernel_rfl) (by kernel_rfl) (by kernel_rfl) hC (loops_all 0 (by kernel_rfl) fun i hi => absurd hi (Nat.not_lt_zero i)) (spec_NodesOf.e k) (fun a => Nat.le_of_ble_eq_true (by kernel_rfl)) fun a b h => (spec_NodesOf.link k a.1).trans h
theorem spec_NodesOf.ok (k : Nat) : Fun Try.prog 27 (spec_NodesOf.e k).G := spec_NodesOf.ok1 k ⟨spec_SolidOk.ok k, spec_l8Count.ok k, trivial⟩

noncomputable def impl_Solid_nodes.fs (k : Nat) (self73 : Tree → Option Int) (a0 : Tree) : Option Int :=
  (impl_Solid_isLeaf.f k  (T1 a0)).bind fun t1 => if t1 = true then (some 0) else (if 0 ≤ 0 then (if 0 < (a0.kids.length : Int) then ((self73  (T1 (rd a0.kids 0))).bind fun t2 => if 0 ≤ 1 then (if 1 < (a0.kids.length : Int) then ((self73  (T1 (rd a0.kids 1))).bind fun t3 => some (W ((W (1 + t2)) + t3))) else none) else none) else none) else none)
noncomputable def impl_Solid_nodes.f : Nat → Tree → Option Int
  | 0, _ => none
  | k + 1, a0 => impl_Solid_nodes.fs k (impl_Solid_nodes.f k) a0
theorem impl_Solid_nodes.fS (k : Nat) (a0 : Tree) : impl_Solid_nodes.f (k + 1) a0 = impl_Solid_nodes.fs k (impl_Solid_nodes.f k) a0 := by first | rfl | rw [impl_Solid_nodes.f]
noncomputable def impl_Solid_nodes.e (k : Nat) : FE := { α := Tree × Unit, β := Int, args := (lCons aTreeP lNil), ret := (rOne (aI .i64)), f := fun p => impl_Solid_nodes.f k p.1 }
noncomputable def impl_Solid_nodes.c (k : Nat) : List (Nat × CE) := [(106, .fn (impl_Solid_isLeaf.e k)), (73, .fn (impl_Solid_nodes.e k))]
noncomputable def impl_Solid_nodes.bd : Code := match Try.f73.body with | some c => c | none => .skip
noncomputable def impl_Solid_nodes.g (k : Nat) : List (Nat × LE) := []
theorem impl_Solid_nodes.link (k : Nat) (a0 : Tree) : evFun (mkCx Try.prog (impl_Solid_nodes.c k) (impl_Solid_nodes.g k) : Cx Int) Try.f73 ((impl_Solid_nodes.e (k + 1)).args.enc (a0, ())) (impl_Solid_nodes.e (k + 1)).ret.dec = impl_Solid_nodes.fs k (impl_Solid_nodes.f k) a0 := by kernel_rfl
theorem impl_Solid_nodes.ok1 (k : Nat) (hC : AllFun Try.prog (impl_Solid_nodes.c k)) : Fun Try.prog 73 (impl_Solid_nodes.e (k + 1)).G := fun_ok mixed (body := impl_Solid_nodes.bd) Try.func73 (by kernel_rfl) (by kernel_rfl) (by kernel_rfl) hC (loops_all 0 (by kernel_rfl) fun i hi => absurd hi (Nat.not_lt_zero i)) (impl_Solid_nodes.e (k + 1)) (fun a => Nat.le_of_ble_eq_true (by kernel_rfl)) fun a b h => (impl_Solid_nodes.link k a.1).trans ((impl_Solid_nodes.fS k a.1).symm.trans h)
theorem impl_Solid_nodes.ok : ∀ k, Fun Try.prog 73 (impl_Solid_nodes.e k).G
  | 0 => fun_zero (by kernel_rfl) fun _ => rfl
  | k + 1 => impl_Solid_nodes.ok1 k ⟨impl_Solid_isLeaf.ok k, impl_Solid_nodes.ok k, trivial⟩

noncomputable def impl_NodesOf.f (k : Nat) (a0 : Tree) : Option Int :=
  (impl_SolidOk.f k  (T1 a0)).bind fun t1 => if (!t1) = true then (some 0) else ((impl_Solid_nodes.f k  (T1 a0)).bind fun t2 => some t2)
noncomputable def impl_NodesOf.e (k : Nat) : FE := { α := Tree × Unit, β := Int, args := (lCons aTree lNil), ret := (rOne (aI .i64)), f := fun p => impl_NodesOf.f k p.1 }
noncomputable def impl_NodesOf.c (k : Nat) : List (Nat × CE) := [(26, .fn (impl_SolidOk.e k)), (73, .fn (impl_Solid_nodes.e k))]
noncomputable def impl_NodesOf.bd : Code := match Try.f28.body with | some c => c | none => .skip
noncomputable def impl_NodesOf.g (k : Nat) : List (Nat × LE) := []
theorem impl_NodesOf.link (k : Nat) (a0 : Tree) : evFun (mkCx Try.prog (impl_NodesOf.c k) (impl_NodesOf.g k) : Cx Int) Try.f28 ((impl_NodesOf.e k).args.enc (a0, ())) (impl_NodesOf.e k).ret.dec = impl_NodesOf.f k a0 := by kernel_rfl
theorem impl_NodesOf.ok1 (k : Nat) (hC : AllFun Try.prog (impl_NodesOf.c k)) : Fun Try.prog 28 (impl_NodesOf.e k).G := fun_ok mixed (body := impl_NodesOf.bd) Try.func28 (by kernel_rfl) (by kernel_rfl) (by kernel_rfl) hC (loops_all 0 (by kernel_rfl) fun i hi => absurd hi (Nat.not_lt_zero i)) (impl_NodesOf.e k) (fun a => Nat.le_of_ble_eq_true (by kernel_rfl)) fun a b h => (impl_NodesOf.link k a.1).trans h
theorem impl_NodesOf.ok (k : Nat) : Fun Try.prog 28 (impl_NodesOf.e k).G := impl_NodesOf.ok1 k ⟨impl_SolidOk.ok k, impl_Solid_nodes.ok k, trivial⟩

noncomputable def laws_FnExactNodesOf.f (k : Nat) (a0 : Tree) : Option Bool :=
  (laws_szSolid.f k  (T1 a0) 1048576).bind fun t1 => if (decide (t1 < 0)) = true then (some true) else ((laws_toSolid.f k  (T1 a0)).bind fun t2 => (spec_NodesOf.f k  (T1 t2)).bind fun t3 => (laws_toSolid.f k  (T1 a0)).bind fun t4 => (impl_NodesOf.f k  (T1 t4)).bind fun t5 => if (t5 != t3) = true then (some false) else ((laws_toSolid.f k  (T1 a0)).bind fun t6 => (laws_eqSolid.f k  (T1 t4) (T1 t6)).bind fun t7 => if (!t7) = true then (some false) else (some true)))
noncomputable def laws_FnExactNodesOf.e (k : Nat) : FE := { α := Tree × Unit, β := Bool, args := (lCons aTree lNil), ret := (rOne aB), f := fun p => laws_FnExactNodesOf.f k p.1 }
noncomputable def laws_FnExactNodesOf.c (k : Nat) : List (Nat × CE) := [(21, .fn (laws_szSolid.e k)), (23, .fn (laws_toSolid.e k)), (27, .fn (spec_NodesOf.e k)), (28, .fn (impl_NodesOf.e k)), (18, .fn (laws_eqSolid.e k))]
noncomputable def laws_FnExactNodesOf.bd : Code := match Try.f6.body with | some c => c | none => .skip
noncomputable def laws_FnExactNodesOf.g (k : Nat) : List (Nat × LE) := []
theorem laws_FnExactNodesOf.link (k : Nat) (a0 : Tree) : evFun (mkCx Try.prog (laws_FnExactNodesOf.c k) (laws_FnExactNodesOf.g k) : Cx Bool) Try.f6 ((laws_FnExactNodesOf.e k).args.enc (a0, ())) (laws_FnExactNodesOf.e k).ret.dec = laws_FnExactNodesOf.f k a0 := by kernel_rfl
theorem laws_FnExactNodesOf.ok1 (k : Nat) (hC : AllFun Try.prog (laws_FnExactNodesOf.c k)) : Fun Try.prog 6 (laws_FnExactNodesOf.e k).G := fun_ok mixed (body := laws_FnExactNodesOf.bd) Try.func6 (by kernel_rfl) (by kernel_rfl) (by kernel_rfl) hC (loops_all 0 (by kernel_rfl) fun i hi => absurd hi (Nat.not_lt_zero i)) (laws_FnExactNodesOf.e k) (fun a => Nat.le_of_ble_eq_true (by kernel_rfl)) fun a b h => (laws_FnExactNodesOf.link k a.1).trans h
theorem laws_FnExactNodesOf.ok (k : Nat) : Fun Try.prog 6 (laws_FnExactNodesOf.e k).G := laws_FnExactNodesOf.ok1 k ⟨laws_szSolid.ok k, laws_toSolid.ok k, spec_NodesOf.ok k, impl_NodesOf.ok k, laws_eqSolid.ok k, trivial⟩

noncomputable def spec_l8Depth.fs (k : Nat) (self74 : Tree → Option Int) (a0 : Tree) : Option Int :=
  (spec_l8Leaf.f k  (T1 a0)).bind fun t1 => if t1 = true then (some 0) else (if 0 ≤ 0 then (if 0 < (a0.kids.length : Int) then ((self74  (T1 (rd a0.kids 0))).bind fun t2 => if 0 ≤ 1 then (if 1 < (a0.kids.length : Int) then ((self74  (T1 (rd a0.kids 1))).bind fun t3 => if (decide (t3 > t2)) = true then (some (W (t3 + 1))) else (some (W (t2 + 1)))) else none) else none) else none) else none)
noncomputable def spec_l8Depth.f : Nat → Tree → Option Int
  | 0, _ => none
  | k + 1, a0 => spec_l8Depth.fs k (spec_l8Depth.f k) a0
theorem spec_l8Depth.fS (k : Nat) (a0 : Tree) : spec_l8Depth.f (k + 1) a0 = spec_l8Depth.fs k (spec_l8Depth.f k) a0 := by first | rfl | rw [spec_l8Depth.f]
noncomputable def spec_l8Depth.e (k : Nat) : FE := { α := Tree × Unit, β := Int, args := (lCons aTree lNil), ret := (rOne (aI .i64)), f := fun p => spec_l8Depth.f k p.1 }
noncomputable def spec_l8Depth.c (k : Nat) : List (Nat × CE) := [(103, .fn (spec_l8Leaf.e k)), (74, .fn (spec_l8Depth.e k))]
noncomputable def spec_l8Depth.bd : Code := match Try.f74.body with | some c => c | none => .skip
noncomputable def spec_l8Depth.g (k : Nat) : List (Nat × LE) := []
theorem spec_l8Depth.link (k : Nat) (a0 : Tree) : evFun (mkCx Try.prog (spec_l8Depth.c k) (spec_l8Depth.g k) : Cx Int) Try.f74 ((spec_l8Depth.e (k + 1)).args.enc (a0, ())) (spec_l8Depth.e (k + 1)).ret.dec = spec_l8Depth.fs k (spec_l8Depth.f k) a0 := by kernel_rfl
theorem spec_l8Depth.ok1 (k : Nat) (hC : AllFun Try.prog (spec_l8Depth.c k)) : Fun Try.prog 74 (spec_l8Depth.e (k + 1)).G := fun_ok mixed (body := spec_l8Depth.bd) Try.func74 (by kernel_rfl) (by kernel_rfl) (by kernel_rfl) hC (loops_all 0 (by kernel_rfl) fun i hi => absurd hi (Nat.not_lt_zero i)) (spec_l8Depth.e (k + 1)) (fun a => Nat.le_of_ble_eq_true (by kernel_rfl)) fun a b h => (spec_l8Depth.link k a.1).trans ((spec_l8Depth.fS k a.1).symm.trans h)
theorem spec_l8Depth.ok : ∀ k, Fun Try.prog 74 (spec_l8Depth.e k).G
  | 0 => fun_zero (by kernel_rfl) fun _ => rfl
  | k + 1 => spec_l8Depth.ok1 k ⟨spec_l8Leaf.ok k, spec_l8Depth.ok k, trivial⟩

noncomputable def spec_DepthOf.f (k : Nat) (a0 : Tree) : Option Int :=
  (spec_SolidOk.f k  (T1 a0)).bind fun t1 => if (!t1) = true then (some 0) else ((spec_l8Depth.f k  (T1 a0)).bind fun t2 => some t2)
noncomputable def spec_DepthOf.e (k : Nat) : FE := { α := Tree × Unit, β := Int, args := (lCons aTree lNil), ret := (rOne (aI .i64)), f := fun p => spec_DepthOf.f k p.1 }
noncomputable def spec_DepthOf.c (k : Nat) : List (Nat × CE) := [(25, .fn (spec_SolidOk.e k)), (74, .fn (spec_l8Depth.e k))]
noncomputable def spec_DepthOf.bd : Code := match Try.f29.body with | some c => c | none => .skip
noncomputable def spec_DepthOf.g (k : Nat) : List (Nat × LE) := []
theorem spec_DepthOf.link (k : Nat) (a0 : Tree) : evFun (mkCx Try.prog (spec_DepthOf.c k) (spec_DepthOf.g k) : Cx Int) Try.f29 ((spec_DepthOf.e k).args.enc (a0, ())) (spec_DepthOf.e k).ret.dec = spec_DepthOf.f k a0 := by kernel_rfl
theorem spec_DepthOf.ok1 (k : Nat) (hC : AllFun Try.prog (spec_DepthOf.c k)) : Fun Try.prog 29 (spec_DepthOf.e k).G := fun_ok mixed (body := spec_DepthOf.bd) Try.func29 (by kernel_rfl) (by kernel_rfl) (by kernel_rfl) hC (loops_all 0 (by kernel_rfl) fun i hi => absurd hi (Nat.not_lt_zero i)) (spec_DepthOf.e k) (fun a => Nat.le_of_ble_eq_true (by kernel_rfl)) fun a b h => (spec_DepthOf.link k a.1).trans h
theorem spec_DepthOf.ok (k : Nat) : Fun Try.prog 29 (spec_DepthOf.e k).G := spec_DepthOf.ok1 k ⟨spec_SolidOk.ok k, spec_l8Depth.ok k, trivial⟩

noncomputable def impl_Solid_depth.fs (k : Nat) (self75 : Tree → Option Int) (a0 : Tree) : Option Int :=
  (impl_Solid_isLeaf.f k  (T1 a0)).bind fun t1 => if t1 = true then (some 0) else (if 0 ≤ 0 then (if 0 < (a0.kids.length : Int) then ((self75  (T1 (rd a0.kids 0))).bind fun t2 => if 0 ≤ 1 then (if 1 < (a0.kids.length : Int) then ((self75  (T1 (rd a0.kids 1))).bind fun t3 => some (W (1 + (if t3 > t2 then t3 else t2)))) else none) else none) else none) else none)
noncomputable def impl_Solid_depth.f : Nat → Tree → Option Int
  | 0, _ => none
  | k + 1, a0 => impl_Solid_depth.fs k (impl_Solid_depth.f k) a0
theorem impl_Solid_depth.fS (k : Nat) (a0 : Tree) : impl_Solid_depth.f (k + 1) a0 = impl_Solid_depth.fs k (impl_Solid_depth.f k) a0 := by first | rfl | rw [impl_Solid_depth.f]
noncomputable def impl_Solid_depth.e (k : Nat) : FE := { α := Tree × Unit, β := Int, args := (lCons aTreeP lNil), ret := (rOne (aI .i64)), f := fun p => impl_Solid_depth.f k p.1 }
noncomputable def impl_Solid_depth.c (k : Nat) : List (Nat × CE) := [(106, .fn (impl_Solid_isLeaf.e k)), (75, .fn (impl_Solid_depth.e k))]
noncomputable def impl_Solid_depth.bd : Code := match Try.f75.body with | some c => c | none => .skip
noncomputable def impl_Solid_depth.g (k : Nat) : List (Nat × LE) := []
theorem impl_Solid_depth.link (k : Nat) (a0 : Tree) : evFun (mkCx Try.prog (impl_Solid_depth.c k) (impl_Solid_depth.g k) : Cx Int) Try.f75 ((impl_Solid_depth.e (k + 1)).args.enc (a0, ())) (impl_Solid_depth.e (k + 1)).ret.dec = impl_Solid_depth.fs k (impl_Solid_depth.f k) a0 := by kernel_rfl
theorem impl_Solid_depth.ok1 (k : Nat) (hC : AllFun Try.prog (impl_Solid_depth.c k)) : Fun Try.prog 75 (impl_Solid_depth.e (k + 1)).G := fun_ok mixed (body := impl_Solid_depth.bd) Try.func75 (by kernel_rfl) (by kernel_rfl) (by kernel_rfl) hC (loops_all 0 (by kernel_rfl) fun i hi => absurd hi (Nat.not_lt_zero i)) (impl_Solid_depth.e (k + 1)) (fun a => Nat.le_of_ble_eq_true (by kernel_rfl)) fun a b h => (impl_Solid_depth.link k a.1).trans ((impl_Solid_depth.fS k a.1).symm.trans h)
theorem impl_Solid_depth.ok : ∀ k, Fun Try.prog 75 (impl_Solid_depth.e k).G
  | 0 => fun_zero (by kernel_rfl) fun _ => rfl
  | k + 1 => impl_Solid_depth.ok1 k ⟨impl_Solid_isLeaf.ok k, impl_Solid_depth.ok k, trivial⟩

noncomputable def impl_DepthOf.f (k : Nat) (a0 : Tree) : Option Int :=
  (impl_SolidOk.f k  (T1 a0)).bind fun t1 => if (!t1) = true then (some 0) else ((impl_Solid_depth.f k  (T1 a0)).bind fun t2 => some t2)
noncomputable def impl_DepthOf.e (k : Nat) : FE := { α := Tree × Unit, β := Int, args := (lCons aTree lNil), ret := (rOne (aI .i64)), f := fun p => impl_DepthOf.f k p.1 }
noncomputable def impl_DepthOf.c (k : Nat) : List (Nat × CE) := [(26, .fn (impl_SolidOk.e k)), (75, .fn (impl_Solid_depth.e k))]
noncomputable def impl_DepthOf.bd : Code := match Try.f30.body with | some c => c | none => .skip
noncomputable def impl_DepthOf.g (k : Nat) : List (Nat × LE) := []
theorem impl_DepthOf.link (k : Nat) (a0 : Tree) : evFun (mkCx Try.prog (impl_DepthOf.c k) (impl_DepthOf.g k) : Cx Int) Try.f30 ((impl_DepthOf.e k).args.enc (a0, ())) (impl_DepthOf.e k).ret.dec = impl_DepthOf.f k a0 := by kernel_rfl
theorem impl_DepthOf.ok1 (k : Nat) (hC : AllFun Try.prog (impl_DepthOf.c k)) : Fun Try.prog 30 (impl_DepthOf.e k).G := fun_ok mixed (body := impl_DepthOf.bd) Try.func30 (by kernel_rfl) (by kernel_rfl) (by kernel_rfl) hC (loops_all 0 (by kernel_rfl) fun i hi => absurd hi (Nat.not_lt_zero i)) (impl_DepthOf.e k) (fun a => Nat.le_of_ble_eq_true (by kernel_rfl)) fun a b h => (impl_DepthOf.link k a.1).trans h
theorem impl_DepthOf.ok (k : Nat) : Fun Try.prog 30 (impl_DepthOf.e k).G := impl_DepthOf.ok1 k ⟨impl_SolidOk.ok k, impl_Solid_depth.ok k, trivial⟩

noncomputable def laws_FnExactDepthOf.f (k : Nat) (a0 : Tree) : Option Bool :=
  (laws_szSolid.f k  (T1 a0) 1048576).bind fun t1 => if (decide (t1 < 0)) = true then (some true) else ((laws_toSolid.f k  (T1 a0)).bind fun t2 => (spec_DepthOf.f k  (T1 t2)).bind fun t3 => (laws_toSolid.f k  (T1 a0)).bind fun t4 => (impl_DepthOf.f k  (T1 t4)).bind fun t5 => if (t5 != t3) = true then (some false) else ((laws_toSolid.f k  (T1 a0)).bind fun t6 => (laws_eqSolid.f k  (T1 t4) (T1 t6)).bind fun t7 => if (!t7) = true then (some false) else (some true)))
noncomputable def laws_FnExactDepthOf.e (k : Nat) : FE := { α := Tree × Unit, β := Bool, args := (lCons aTree lNil), ret := (rOne aB), f := fun p => laws_FnExactDepthOf.f k p.1 }
noncomputable def laws_FnExactDepthOf.c (k : Nat) : List (Nat × CE) := [(21, .fn (laws_szSolid.e k)), (23, .fn (laws_toSolid.e k)), (29, .fn (spec_DepthOf.e k)), (30, .fn (impl_DepthOf.e k)), (18, .fn (laws_eqSolid.e k))]
noncomputable def laws_FnExactDepthOf.bd : Code := match Try.f7.body with | some c => c | none => .skip
noncomputable def laws_FnExactDepthOf.g (k : Nat) : List (Nat × LE) := []
theorem laws_FnExactDepthOf.link (k : Nat) (a0 : Tree) : evFun (mkCx Try.prog (laws_FnExactDepthOf.c k) (laws_FnExactDepthOf.g k) : Cx Bool) Try.f7 ((laws_FnExactDepthOf.e k).args.enc (a0, ())) (laws_FnExactDepthOf.e k).ret.dec = laws_FnExactDepthOf.f k a0 := by kernel_rfl
theorem laws_FnExactDepthOf.ok1 (k : Nat) (hC : AllFun Try.prog (laws_FnExactDepthOf.c k)) : Fun Try.prog 7 (laws_FnExactDepthOf.e k).G := fun_ok mixed (body := laws_FnExactDepthOf.bd) Try.func7 (by kernel_rfl) (by kernel_rfl) (by kernel_rfl) hC (loops_all 0 (by kernel_rfl) fun i hi => absurd hi (Nat.not_lt_zero i)) (laws_FnExactDepthOf.e k) (fun a => Nat.le_of_ble_eq_true (by kernel_rfl)) fun a b h => (laws_FnExactDepthOf.link k a.1).trans h
theorem laws_FnExactDepthOf.ok (k : Nat) : Fun Try.prog 7 (laws_FnExactDepthOf.e k).G := laws_FnExactDepthOf.ok1 k ⟨laws_szSolid.ok k, laws_toSolid.ok k, spec_DepthOf.ok k, impl_DepthOf.ok k, laws_eqSolid.ok k, trivial⟩

noncomputable def spec_SpotOk.f (k : Nat) (a0 : S4) : Option Bool :=
  (spec_l1In.f k  a0.d 1 1000000000).bind fun t1 => if t1 = true then ((spec_l1In.f k  a0.a (-1000000000) 1000000000).bind fun t2 => if t2 = true then ((spec_l1In.f k  a0.b (-1000000000) 1000000000).bind fun t3 => if t3 = true then ((spec_l1In.f k  a0.c (-1000000000) 1000000000).bind fun t4 => if t4 = true then ((spec_l3Gcd.f k  a0.a a0.b).bind fun t5 => (spec_l3Gcd.f k  a0.c a0.d).bind fun t6 => (spec_l3Gcd.f k  t5 t6).bind fun t7 => some (t7 == 1)) else (some false)) else (some false)) else (some false)) else (some false)
noncomputable def spec_SpotOk.e (k : Nat) : FE := { α := S4 × Unit, β := Bool, args := (lCons aS4 lNil), ret := (rOne aB), f := fun p => spec_SpotOk.f k p.1 }
noncomputable def spec_SpotOk.c (k : Nat) : List (Nat × CE) := [(112, .fn (spec_l1In.e k)), (100, .fn (spec_l3Gcd.e k))]
noncomputable def spec_SpotOk.bd : Code := match Try.f84.body with | some c => c | none => .skip
noncomputable def spec_SpotOk.g (k : Nat) : List (Nat × LE) := []
theorem spec_SpotOk.link (k : Nat) (a0 : S4) : evFun (mkCx Try.prog (spec_SpotOk.c k) (spec_SpotOk.g k) : Cx Bool) Try.f84 ((spec_SpotOk.e k).args.enc (a0, ())) (spec_SpotOk.e k).ret.dec = spec_SpotOk.f k a0 := by kernel_rfl
theorem spec_SpotOk.ok1 (k : Nat) (hC : AllFun Try.prog (spec_SpotOk.c k)) : Fun Try.prog 84 (spec_SpotOk.e k).G := fun_ok mixed (body := spec_SpotOk.bd) Try.func84 (by kernel_rfl) (by kernel_rfl) (by kernel_rfl) hC (loops_all 0 (by kernel_rfl) fun i hi => absurd hi (Nat.not_lt_zero i)) (spec_SpotOk.e k) (fun a => Nat.le_of_ble_eq_true (by kernel_rfl)) fun a b h => (spec_SpotOk.link k a.1).trans h
theorem spec_SpotOk.ok (k : Nat) : Fun Try.prog 84 (spec_SpotOk.e k).G := spec_SpotOk.ok1 k ⟨spec_l1In.ok k, spec_l3Gcd.ok k, trivial⟩

noncomputable def spec_l5Side.f (k : Nat) (a0 : S4) (a1 : S4) : Option Int :=
  (spec_l3Sign.f k  (W ((W ((W ((W (a0.a * a1.a)) + (W (a0.b * a1.b)))) + (W (a0.c * a1.c)))) + (W (a0.d * a1.d))))).bind fun t1 => some t1
noncomputable def spec_l5Side.e (k : Nat) : FE := { α := S4 × S4 × Unit, β := Int, args := (lCons aS4 (lCons aS4 lNil)), ret := (rOne (aI .i64)), f := fun p => spec_l5Side.f k p.1 p.2.1 }
noncomputable def spec_l5Side.c (k : Nat) : List (Nat × CE) := [(130, .fn (spec_l3Sign.e k))]
noncomputable def spec_l5Side.bd : Code := match Try.f113.body with | some c => c | none => .skip
noncomputable def spec_l5Side.g (k : Nat) : List (Nat × LE) := []
theorem spec_l5Side.link (k : Nat) (a0 : S4) (a1 : S4) : evFun (mkCx Try.prog (spec_l5Side.c k) (spec_l5Side.g k) : Cx Int) Try.f113 ((spec_l5Side.e k).args.enc (a0, a1, ())) (spec_l5Side.e k).ret.dec = spec_l5Side.f k a0 a1 := by kernel_rfl
theorem spec_l5Side.ok1 (k : Nat) (hC : AllFun Try.prog (spec_l5Side.c k)) : Fun Try.prog 113 (spec_l5Side.e k).G := fun_ok mixed (body := spec_l5Side.bd) Try.func113 (by kernel_rfl) (by kernel_rfl) (by kernel_rfl) hC (loops_all 0 (by kernel_rfl) fun i hi => absurd hi (Nat.not_lt_zero i)) (spec_l5Side.e k) (fun a => Nat.le_of_ble_eq_true (by kernel_rfl)) fun a b h => (spec_l5Side.link k a.1 a.2.1).trans h
theorem spec_l5Side.ok (k : Nat) : Fun Try.prog 113 (spec_l5Side.e k).G := spec_l5Side.ok1 k ⟨spec_l3Sign.ok k, trivial⟩

noncomputable def spec_l10Around.fs (k : Nat) (self85 : Tree → S4 → Option (Int × Int × Unit)) (a0 : Tree) (a1 : S4) : Option (Int × Int × Unit) :=
  (spec_l8Leaf.f k  (T1 a0)).bind fun t1 => if t1 = true then (if a0.inn = true then (some (1, 0, ())) else (some (0, 1, ()))) else ((spec_l5Side.f k  a0.p a1).bind fun t2 => if (decide (t2 ≥ 0)) = true then (if 0 ≤ 0 then (if 0 < (a0.kids.length : Int) then ((self85  (T1 (rd a0.kids 0)) a1).bind fun t3 => if (decide (t2 ≤ 0)) = true then (if 0 ≤ 1 then (if 1 < (a0.kids.length : Int) then ((self85  (T1 (rd a0.kids 1)) a1).bind fun t4 => some ((W (t3.1 + t4.1)), (W (t3.2.1 + t4.2.1)), ())) else none) else none) else (some (t3.1, t3.2.1, ()))) else none) else none) else (if (decide (t2 ≤ 0)) = true then (if 0 ≤ 1 then (if 1 < (a0.kids.length : Int) then ((self85  (T1 (rd a0.kids 1)) a1).bind fun t5 => some ((W (0 + t5.1)), (W (0 + t5.2.1)), ())) else none) else none) else (some (0, 0, ()))))
noncomputable def spec_l10Around.f : Nat → Tree → S4 → Option (Int × Int × Unit)
  | 0, _, _ => none
  | k + 1, a0, a1 => spec_l10Around.fs k (spec_l10Around.f k) a0 a1
theorem spec_l10Around.fS (k : Nat) (a0 : Tree) (a1 : S4) : spec_l10Around.f (k + 1) a0 a1 = spec_l10Around.fs k (spec_l10Around.f k) a0 a1 := by first | rfl | rw [spec_l10Around.f]
noncomputable def spec_l10Around.e (k : Nat) : FE := { α := Tree × S4 × Unit, β := (Int × Int × Unit), args := (lCons aTree (lCons aS4 lNil)), ret := (rMany (lCons (aI .i64) (lCons (aI .i64) lNil))), f := fun p => spec_l10Around.f k p.1 p.2.1 }
noncomputable def spec_l10Around.c (k : Nat) : List (Nat × CE) := [(103, .fn (spec_l8Leaf.e k)), (113, .fn (spec_l5Side.e k)), (85, .fn (spec_l10Around.e k))]
noncomputable def spec_l10Around.bd : Code := match Try.f85.body with | some c => c | none => .skip
noncomputable def spec_l10Around.g (k : Nat) : List (Nat × LE) := []
theorem spec_l10Around.link (k : Nat) (a0 : Tree) (a1 : S4) : evFun (mkCx Try.prog (spec_l10Around.c k) (spec_l10Around.g k) : Cx (Int × Int × Unit)) Try.f85 ((spec_l10Around.e (k + 1)).args.enc (a0, a1, ())) (spec_l10Around.e (k + 1)).ret.dec = spec_l10Around.fs k (spec_l10Around.f k) a0 a1 := by kernel_rfl
theorem spec_l10Around.ok1 (k : Nat) (hC : AllFun Try.prog (spec_l10Around.c k)) : Fun Try.prog 85 (spec_l10Around.e (k + 1)).G := fun_ok mixed (body := spec_l10Around.bd) Try.func85 (by kernel_rfl) (by kernel_rfl) (by kernel_rfl) hC (loops_all 0 (by kernel_rfl) fun i hi => absurd hi (Nat.not_lt_zero i)) (spec_l10Around.e (k + 1)) (fun a => Nat.le_of_ble_eq_true (by kernel_rfl)) fun a b h => (spec_l10Around.link k a.1 a.2.1).trans ((spec_l10Around.fS k a.1 a.2.1).symm.trans h)
theorem spec_l10Around.ok : ∀ k, Fun Try.prog 85 (spec_l10Around.e k).G
  | 0 => fun_zero (by kernel_rfl) fun _ => rfl
  | k + 1 => spec_l10Around.ok1 k ⟨spec_l8Leaf.ok k, spec_l5Side.ok k, spec_l10Around.ok k, trivial⟩

noncomputable def spec_Around.f (k : Nat) (a0 : Tree) (a1 : S4) : Option (Int × Int × Unit) :=
  (spec_SolidOk.f k  (T1 a0)).bind fun t1 => if (!t1) = true then (some (0, 0, ())) else ((spec_SpotOk.f k  a1).bind fun t2 => if (!t2) = true then (some (0, 0, ())) else ((spec_l10Around.f k  (T1 a0) a1).bind fun t3 => some (t3.1, t3.2.1, ())))
noncomputable def spec_Around.e (k : Nat) : FE := { α := Tree × S4 × Unit, β := (Int × Int × Unit), args := (lCons aTree (lCons aS4 lNil)), ret := (rMany (lCons (aI .i64) (lCons (aI .i64) lNil))), f := fun p => spec_Around.f k p.1 p.2.1 }
noncomputable def spec_Around.c (k : Nat) : List (Nat × CE) := [(25, .fn (spec_SolidOk.e k)), (84, .fn (spec_SpotOk.e k)), (85, .fn (spec_l10Around.e k))]
noncomputable def spec_Around.bd : Code := match Try.f40.body with | some c => c | none => .skip
noncomputable def spec_Around.g (k : Nat) : List (Nat × LE) := []
theorem spec_Around.link (k : Nat) (a0 : Tree) (a1 : S4) : evFun (mkCx Try.prog (spec_Around.c k) (spec_Around.g k) : Cx (Int × Int × Unit)) Try.f40 ((spec_Around.e k).args.enc (a0, a1, ())) (spec_Around.e k).ret.dec = spec_Around.f k a0 a1 := by kernel_rfl
theorem spec_Around.ok1 (k : Nat) (hC : AllFun Try.prog (spec_Around.c k)) : Fun Try.prog 40 (spec_Around.e k).G := fun_ok mixed (body := spec_Around.bd) Try.func40 (by kernel_rfl) (by kernel_rfl) (by kernel_rfl) hC (loops_all 0 (by kernel_rfl) fun i hi => absurd hi (Nat.not_lt_zero i)) (spec_Around.e k) (fun a => Nat.le_of_ble_eq_true (by kernel_rfl)) fun a b h => (spec_Around.link k a.1 a.2.1).trans h
theorem spec_Around.ok (k : Nat) : Fun Try.prog 40 (spec_Around.e k).G := spec_Around.ok1 k ⟨spec_SolidOk.ok k, spec_SpotOk.ok k, spec_l10Around.ok k, trivial⟩

noncomputable def laws_toSpot.f (k : Nat) (a0 : S4) : Option S4 :=
  some a0
noncomputable def laws_toSpot.e (k : Nat) : FE := { α := S4 × Unit, β := S4, args := (lCons aS4 lNil), ret := (rOne aS4), f := fun p => laws_toSpot.f k p.1 }
noncomputable def laws_toSpot.c (k : Nat) : List (Nat × CE) := []
noncomputable def laws_toSpot.bd : Code := match Try.f41.body with | some c => c | none => .skip
noncomputable def laws_toSpot.g (k : Nat) : List (Nat × LE) := []
theorem laws_toSpot.link (k : Nat) (a0 : S4) : evFun (mkCx Try.prog (laws_toSpot.c k) (laws_toSpot.g k) : Cx S4) Try.f41 ((laws_toSpot.e k).args.enc (a0, ())) (laws_toSpot.e k).ret.dec = laws_toSpot.f k a0 := by kernel_rfl
theorem laws_toSpot.ok1 (k : Nat) (hC : AllFun Try.prog (laws_toSpot.c k)) : Fun Try.prog 41 (laws_toSpot.e k).G := fun_ok mixed (body := laws_toSpot.bd) Try.func41 (by kernel_rfl) (by kernel_rfl) (by kernel_rfl) hC (loops_all 0 (by kernel_rfl) fun i hi => absurd hi (Nat.not_lt_zero i)) (laws_toSpot.e k) (fun a => Nat.le_of_ble_eq_true (by kernel_rfl)) fun a b h => (laws_toSpot.link k a.1).trans h
theorem laws_toSpot.ok (k : Nat) : Fun Try.prog 41 (laws_toSpot.e k).G := laws_toSpot.ok1 k trivial

end Go.Proofs.Ytfgaeenlnkioaaa.G
