/- Go functions told as plain Lean functions; that the code does what these tell. Printed by a program of the session (evp.py). -/
import Derived.Test.YtfgaeenlnkioaaaEv16
import Derived.Test.YtfgaeenlnkioaaaG5
namespace Go.Proofs.Ytfgaeenlnkioaaa.G
open Go Go.RowKit Go.Proofs Go.Proofs.Ytfgaeenlnkioaaa.Ev
set_option linter.unusedVariables false
set_option maxRecDepth 100000

noncomputable def laws_FnExactBlame.f (k : Nat) (a0 : List S4) : Option Bool :=
  (laws_szPlaneS.f k  a0 1048576).bind fun t1 => if (decide (t1 < 0)) = true then (some true) else ((laws_toPlaneS.f k  a0).bind fun t2 => (spec_Blame.f k  t2).bind fun t3 => (laws_toPlaneS.f k  a0).bind fun t4 => (impl_Blame.f k  t4).bind fun t5 => (laws_eqIntS.f k  t5 t3).bind fun t6 => if (!t6) = true then (some false) else ((laws_toPlaneS.f k  a0).bind fun t7 => (laws_eqPlaneS.f k  t4 t7).bind fun t8 => if (!t8) = true then (some false) else ((laws_markPlaneS.f k  t4 1).bind fun t9 => if (decide (t9.1 < 0)) = true then (some false) else ((laws_eqIntS.f k  t5 t3).bind fun t10 => if (!t10) = true then (some false) else ((laws_markIntS.f k  t5 1).bind fun t11 => (laws_heldIntS.f k  t11.2 1).bind fun t12 => if (decide (t12 < 0)) = true then (some false) else (if (t12 != t11.1) = true then (some false) else ((laws_toPlaneS.f k  a0).bind fun t13 => (impl_Blame.f k  t13).bind fun t14 => (laws_eqIntS.f k  t14 t3).bind fun t15 => if (!t15) = true then (some false) else ((laws_heldIntS.f k  t11.2 1).bind fun t16 => if (decide (t16 < 0)) = true then (some false) else (if (t16 != t11.1) = true then (some false) else (some true))))))))))
noncomputable def laws_FnExactBlame.e (k : Nat) : FE := { α := (List S4) × Unit, β := Bool, args := (lCons (aSl .s4) lNil), ret := (rOne aB), f := fun p => laws_FnExactBlame.f k p.1 }
noncomputable def laws_FnExactBlame.c (k : Nat) : List (Nat × CE) := [(31, .fn (laws_szPlaneS.e k)), (33, .fn (laws_toPlaneS.e k)), (32, .fn (spec_Blame.e k)), (34, .fn (impl_Blame.e k)), (35, .fn (laws_eqIntS.e k)), (36, .fn (laws_eqPlaneS.e k)), (37, .st (laws_markPlaneS.e k)), (38, .st (laws_markIntS.e k)), (39, .fn (laws_heldIntS.e k))]
noncomputable def laws_FnExactBlame.bd : Code := match Try.f8.body with | some c => c | none => .skip
noncomputable def laws_FnExactBlame.g (k : Nat) : List (Nat × LE) := []
theorem laws_FnExactBlame.link (k : Nat) (a0 : List S4) : evFun (mkCx Try.prog (laws_FnExactBlame.c k) (laws_FnExactBlame.g k) : Cx Bool) Try.f8 ((laws_FnExactBlame.e k).args.enc (a0, ())) (laws_FnExactBlame.e k).ret.dec = laws_FnExactBlame.f k a0 := by kernel_rfl
theorem laws_FnExactBlame.ok1 (k : Nat) (hC : AllFun Try.prog (laws_FnExactBlame.c k)) : Fun Try.prog 8 (laws_FnExactBlame.e k).G := fun_ok mixed (body := laws_FnExactBlame.bd) Try.func8 (by kernel_rfl) (by kernel_rfl) (by kernel_rfl) hC (loops_all 0 (by kernel_rfl) fun i hi => absurd hi (Nat.not_lt_zero i)) (laws_FnExactBlame.e k) (fun a => Nat.le_of_ble_eq_true (by kernel_rfl)) fun a b h => (laws_FnExactBlame.link k a.1).trans h
theorem laws_FnExactBlame.ok (k : Nat) : Fun Try.prog 8 (laws_FnExactBlame.e k).G := laws_FnExactBlame.ok1 k ⟨laws_szPlaneS.ok k, laws_toPlaneS.ok k, spec_Blame.ok k, impl_Blame.ok k, laws_eqIntS.ok k, laws_eqPlaneS.ok k, laws_markPlaneS.ok k, laws_markIntS.ok k, laws_heldIntS.ok k, trivial⟩

noncomputable def spec_SpotOk.f (k : Nat) (a0 : S4) : Option Bool :=
  (spec_l1In.f k  a0.d 1 1000000000).bind fun t1 => if t1 = true then ((spec_l1In.f k  a0.a (-1000000000) 1000000000).bind fun t2 => if t2 = true then ((spec_l1In.f k  a0.b (-1000000000) 1000000000).bind fun t3 => if t3 = true then ((spec_l1In.f k  a0.c (-1000000000) 1000000000).bind fun t4 => if t4 = true then ((spec_l3Gcd.f k  a0.a a0.b).bind fun t5 => (spec_l3Gcd.f k  a0.c a0.d).bind fun t6 => (spec_l3Gcd.f k  t5 t6).bind fun t7 => some (t7 == 1)) else (some false)) else (some false)) else (some false)) else (some false)
noncomputable def spec_SpotOk.e (k : Nat) : FE := { α := S4 × Unit, β := Bool, args := (lCons aS4 lNil), ret := (rOne aB), f := fun p => spec_SpotOk.f k p.1 }
noncomputable def spec_SpotOk.c (k : Nat) : List (Nat × CE) := [(112, .fn (spec_l1In.e k)), (100, .fn (spec_l3Gcd.e k))]
noncomputable def spec_SpotOk.bd : Code := match Try.f84.body with | some c => c | none => .skip
noncomputable def spec_SpotOk.g (k : Nat) : List (Nat × LE) := []
theorem spec_SpotOk.link (k : Nat) (a0 : S4) : evFun (mkCx Try.prog (spec_SpotOk.c k) (spec_SpotOk.g k) : Cx Bool) Try.f84 ((spec_SpotOk.e k).args.enc (a0, ())) (spec_SpotOk.e k).ret.dec = spec_SpotOk.f k a0 := by kernel_rfl
theorem spec_SpotOk.ok1 (k : Nat) (hC : AllFun Try.prog (spec_SpotOk.c k)) : Fun Try.prog 84 (spec_SpotOk.e k).G := fun_ok mixed (body := spec_SpotOk.bd) Try.func84 (by kernel_rfl) (by kernel_rfl) (by kernel_rfl) hC (loops_all 0 (by kernel_rfl) fun i hi => absurd hi (Nat.not_lt_zero i)) (spec_SpotOk.e k) (fun a => Nat.le_of_ble_eq_true (by kernel_rfl)) fun a b h => (spec_SpotOk.link k a.1).trans h
theorem spec_SpotOk.ok (k : Nat) : Fun Try.prog 84 (spec_SpotOk.e k).G := spec_SpotOk.ok1 k ⟨spec_l1In.ok k, spec_l3Gcd.ok k, trivial⟩

noncomputable def spec_l5Side.f (k : Nat) (a0 : S4) (a1 : S4) : Option Int :=
  (spec_l3Sign.f k  (W ((W ((W ((W (a0.a * a1.a)) + (W (a0.b * a1.b)))) + (W (a0.c * a1.c)))) + (W (a0.d * a1.d))))).bind fun t1 => some t1
noncomputable def spec_l5Side.e (k : Nat) : FE := { α := S4 × S4 × Unit, β := Int, args := (lCons aS4 (lCons aS4 lNil)), ret := (rOne (aI .i64)), f := fun p => spec_l5Side.f k p.1 p.2.1 }
noncomputable def spec_l5Side.c (k : Nat) : List (Nat × CE) := [(130, .fn (spec_l3Sign.e k))]
noncomputable def spec_l5Side.bd : Code := match Try.f113.body with | some c => c | none => .skip
noncomputable def spec_l5Side.g (k : Nat) : List (Nat × LE) := []
theorem spec_l5Side.link (k : Nat) (a0 : S4) (a1 : S4) : evFun (mkCx Try.prog (spec_l5Side.c k) (spec_l5Side.g k) : Cx Int) Try.f113 ((spec_l5Side.e k).args.enc (a0, a1, ())) (spec_l5Side.e k).ret.dec = spec_l5Side.f k a0 a1 := by kernel_rfl
theorem spec_l5Side.ok1 (k : Nat) (hC : AllFun Try.prog (spec_l5Side.c k)) : Fun Try.prog 113 (spec_l5Side.e k).G := fun_ok mixed (body := spec_l5Side.bd) Try.func113 (by kernel_rfl) (by kernel_rfl) (by kernel_rfl) hC (loops_all 0 (by kernel_rfl) fun i hi => absurd hi (Nat.not_lt_zero i)) (spec_l5Side.e k) (fun a => Nat.le_of_ble_eq_true (by kernel_rfl)) fun a b h => (spec_l5Side.link k a.1 a.2.1).trans h
theorem spec_l5Side.ok (k : Nat) : Fun Try.prog 113 (spec_l5Side.e k).G := spec_l5Side.ok1 k ⟨spec_l3Sign.ok k, trivial⟩

noncomputable def spec_l10Around.fs (k : Nat) (self85 : Tree → S4 → Option (Int × Int × Unit)) (a0 : Tree) (a1 : S4) : Option (Int × Int × Unit) :=
  (spec_l8Leaf.f k  (T1 a0)).bind fun t1 => if t1 = true then (if a0.inn = true then (some (1, 0, ())) else (some (0, 1, ()))) else ((spec_l5Side.f k  a0.p a1).bind fun t2 => if (decide (t2 ≥ 0)) = true then (if 0 ≤ 0 then (if 0 < (a0.kids.length : Int) then ((self85  (T1 (rd a0.kids 0)) a1).bind fun t3 => if (decide (t2 ≤ 0)) = true then (if 0 ≤ 1 then (if 1 < (a0.kids.length : Int) then ((self85  (T1 (rd a0.kids 1)) a1).bind fun t4 => some ((W (t3.1 + t4.1)), (W (t3.2.1 + t4.2.1)), ())) else none) else none) else (some (t3.1, t3.2.1, ()))) else none) else none) else (if (decide (t2 ≤ 0)) = true then (if 0 ≤ 1 then (if 1 < (a0.kids.length : Int) then ((self85  (T1 (rd a0.kids 1)) a1).bind fun t5 => some ((W (0 + t5.1)), (W (0 + t5.2.1)), ())) else none) else none) else (some (0, 0, ()))))
noncomputable def spec_l10Around.f : Nat → Tree → S4 → Option (Int × Int × Unit)
  | 0, _, _ => none
  | k + 1, a0, a1 => spec_l10Around.fs k (spec_l10Around.f k) a0 a1
theorem spec_l10Around.fS (k : Nat) (a0 : Tree) (a1 : S4) : spec_l10Around.f (k + 1) a0 a1 = spec_l10Around.fs k (spec_l10Around.f k) a0 a1 := by first | rfl | rw [spec_l10Around.f]
noncomputable def spec_l10Around.e (k : Nat) : FE := { α := Tree × S4 × Unit, β := (Int × Int × Unit), args := (lCons aTree (lCons aS4 lNil)), ret := (rMany (lCons (aI .i64) (lCons (aI .i64) lNil))), f := fun p => spec_l10Around.f k p.1 p.2.1 }
noncomputable def spec_l10Around.c (k : Nat) : List (Nat × CE) := [(103, .fn (spec_l8Leaf.e k)), (113, .fn (spec_l5Side.e k)), (85, .fn (spec_l10Around.e k))]
noncomputable def spec_l10Around.bd : Code := match Try.f85.body with | some c => c | none => .skip
noncomputable def spec_l10Around.g (k : Nat) : List (Nat × LE) := []
theorem spec_l10Around.link (k : Nat) (a0 : Tree) (a1 : S4) : evFun (mkCx Try.prog (spec_l10Around.c k) (spec_l10Around.g k) : Cx (Int × Int × Unit)) Try.f85 ((spec_l10Around.e (k + 1)).args.enc (a0, a1, ())) (spec_l10Around.e (k + 1)).ret.dec = spec_l10Around.fs k (spec_l10Around.f k) a0 a1 := by kernel_rfl
theorem spec_l10Around.ok1 (k : Nat) (hC : AllFun Try.prog (spec_l10Around.c k)) : Fun Try.prog 85 (spec_l10Around.e (k + 1)).G := fun_ok mixed (body := spec_l10Around.bd) Try.func85 (by kernel_rfl) (by kernel_rfl) (by kernel_rfl) hC (loops_all 0 (by kernel_rfl) fun i hi => absurd hi (Nat.not_lt_zero i)) (spec_l10Around.e (k + 1)) (fun a => Nat.le_of_ble_eq_true (by kernel_rfl)) fun a b h => (spec_l10Around.link k a.1 a.2.1).trans ((spec_l10Around.fS k a.1 a.2.1).symm.trans h)
theorem spec_l10Around.ok : ∀ k, Fun Try.prog 85 (spec_l10Around.e k).G
  | 0 => fun_zero (by kernel_rfl) fun _ => rfl
  | k + 1 => spec_l10Around.ok1 k ⟨spec_l8Leaf.ok k, spec_l5Side.ok k, spec_l10Around.ok k, trivial⟩

noncomputable def spec_Around.f (k : Nat) (a0 : Tree) (a1 : S4) : Option (Int × Int × Unit) :=
  (spec_SolidOk.f k  (T1 a0)).bind fun t1 => if (!t1) = true then (some (0, 0, ())) else ((spec_SpotOk.f k  a1).bind fun t2 => if (!t2) = true then (some (0, 0, ())) else ((spec_l10Around.f k  (T1 a0) a1).bind fun t3 => some (t3.1, t3.2.1, ())))
noncomputable def spec_Around.e (k : Nat) : FE := { α := Tree × S4 × Unit, β := (Int × Int × Unit), args := (lCons aTree (lCons aS4 lNil)), ret := (rMany (lCons (aI .i64) (lCons (aI .i64) lNil))), f := fun p => spec_Around.f k p.1 p.2.1 }
noncomputable def spec_Around.c (k : Nat) : List (Nat × CE) := [(25, .fn (spec_SolidOk.e k)), (84, .fn (spec_SpotOk.e k)), (85, .fn (spec_l10Around.e k))]
noncomputable def spec_Around.bd : Code := match Try.f40.body with | some c => c | none => .skip
noncomputable def spec_Around.g (k : Nat) : List (Nat × LE) := []
theorem spec_Around.link (k : Nat) (a0 : Tree) (a1 : S4) : evFun (mkCx Try.prog (spec_Around.c k) (spec_Around.g k) : Cx (Int × Int × Unit)) Try.f40 ((spec_Around.e k).args.enc (a0, a1, ())) (spec_Around.e k).ret.dec = spec_Around.f k a0 a1 := by kernel_rfl
theorem spec_Around.ok1 (k : Nat) (hC : AllFun Try.prog (spec_Around.c k)) : Fun Try.prog 40 (spec_Around.e k).G := fun_ok mixed (body := spec_Around.bd) Try.func40 (by kernel_rfl) (by kernel_rfl) (by kernel_rfl) hC (loops_all 0 (by kernel_rfl) fun i hi => absurd hi (Nat.not_lt_zero i)) (spec_Around.e k) (fun a => Nat.le_of_ble_eq_true (by kernel_rfl)) fun a b h => (spec_Around.link k a.1 a.2.1).trans h
theorem spec_Around.ok (k : Nat) : Fun Try.prog 40 (spec_Around.e k).G := spec_Around.ok1 k ⟨spec_SolidOk.ok k, spec_SpotOk.ok k, spec_l10Around.ok k, trivial⟩

noncomputable def laws_toSpot.f (k : Nat) (a0 : S4) : Option S4 :=
  some a0
noncomputable def laws_toSpot.e (k : Nat) : FE := { α := S4 × Unit, β := S4, args := (lCons aS4 lNil), ret := (rOne aS4), f := fun p => laws_toSpot.f k p.1 }
noncomputable def laws_toSpot.c (k : Nat) : List (Nat × CE) := []
noncomputable def laws_toSpot.bd : Code := match Try.f41.body with | some c => c | none => .skip
noncomputable def laws_toSpot.g (k : Nat) : List (Nat × LE) := []
theorem laws_toSpot.link (k : Nat) (a0 : S4) : evFun (mkCx Try.prog (laws_toSpot.c k) (laws_toSpot.g k) : Cx S4) Try.f41 ((laws_toSpot.e k).args.enc (a0, ())) (laws_toSpot.e k).ret.dec = laws_toSpot.f k a0 := by kernel_rfl
theorem laws_toSpot.ok1 (k : Nat) (hC : AllFun Try.prog (laws_toSpot.c k)) : Fun Try.prog 41 (laws_toSpot.e k).G := fun_ok mixed (body := laws_toSpot.bd) Try.func41 (by kernel_rfl) (by kernel_rfl) (by kernel_rfl) hC (loops_all 0 (by kernel_rfl) fun i hi => absurd hi (Nat.not_lt_zero i)) (laws_toSpot.e k) (fun a => Nat.le_of_ble_eq_true (by kernel_rfl)) fun a b h => (laws_toSpot.link k a.1).trans h
theorem laws_toSpot.ok (k : Nat) : Fun Try.prog 41 (laws_toSpot.e k).G := laws_toSpot.ok1 k trivial

noncomputable def impl_SpotOk.H4 : Hd := ⟨[], [1, 15, 16], [1]⟩
@[reducible] def impl_SpotOk.A4 : Type := ((Unit × S3 × Int × Unit) × (S4 × Unit))
noncomputable def impl_SpotOk.Z4 : SC impl_SpotOk.A4 := sC impl_SpotOk.H4 (eCons 1 (tRef 1 0) (eCons 15 (tP aS3) (eCons 16 (tP (aI .i64)) eNil))) (bCons 1 (xVr cS4) bNil)
@[reducible] def impl_SpotOk.B4 : Type := ((Bool × Unit) × (Unit)) ⊕ ((Unit × Unit) × (S4 × Unit))
noncomputable def impl_SpotOk.X4 : XC impl_SpotOk.B4 := xOr (xRet (sC ⟨[], [2], []⟩ (eCons 2 (tP aB) eNil) bNil)) (xExit 0 (sC ⟨[], [1], [1]⟩ (eCons 1 (tRef 1 0) eNil) (bCons 1 (xVr cS4) bNil)))
noncomputable def impl_SpotOk.s4 (k : Nat)  (J : S3 → Int → S4 → Option impl_SpotOk.B4) (x15 : S3) (x16 : Int) (b1 : S4) : Option impl_SpotOk.B4 :=
  if (decide (x16 < 3)) = true then (if 0 ≤ x16 then (if x16 < 3 then ((impl_inRange.f k  (sel [x15.x, x15.y, x15.z] x16) (-1000000000) 1000000000).bind fun t2 => if (!t2) = true then (some (.inl ((false, ()), (())))) else (J x15 (W (x16 + 1)) b1)) else none) else none) else (some (.inr (((), ()), (b1, ()))))
noncomputable def impl_SpotOk.l4 (k : Nat)  : Nat → S3 → Int → S4 → Option impl_SpotOk.B4
  | 0, _, _, _ => none
  | n + 1, x15, x16, b1 => impl_SpotOk.s4 k (impl_SpotOk.l4 k n) x15 x16 b1
noncomputable def impl_SpotOk.f (k : Nat) (a0 : S4) : Option Bool :=
  (impl_inRange.f k  a0.d 1 1000000000).bind fun t1 => if (!t1) = true then (some false) else ((impl_SpotOk.l4 k k (⟨a0.a, a0.b, a0.c⟩ : S3) 0 a0).bind fun | .inl r3 => (some r3.1.1) | .inr x4 => ((impl_divisor.f k  ([x4.2.1.a, x4.2.1.b, x4.2.1.c, x4.2.1.d] : List Int)).bind fun t5 => some (t5 == 1)))
noncomputable def impl_SpotOk.e (k : Nat) : FE := { α := S4 × Unit, β := Bool, args := (lCons aS4 lNil), ret := (rOne aB), f := fun p => impl_SpotOk.f k p.1 }
noncomputable def impl_SpotOk.c (k : Nat) : List (Nat × CE) := [(114, .fn (impl_inRange.e k)), (102, .fn (impl_divisor.e k))]
noncomputable def impl_SpotOk.bd : Code := match Try.f86.body with | some c => c | none => .skip
noncomputable def impl_SpotOk.e4 (k : Nat) : LE := { H := impl_SpotOk.H4, α := impl_SpotOk.A4, β := impl_SpotOk.B4, st := impl_SpotOk.Z4, xt := impl_SpotOk.X4, f := fun p => impl_SpotOk.l4 k k p.1.2.1 p.1.2.2.1 p.2.1 }
noncomputable def impl_SpotOk.g (k : Nat) : List (Nat × LE) := [(4, impl_SpotOk.e4 k)]
theorem impl_SpotOk.t4 (k : Nat) (I : S2 → Option impl_SpotOk.B4) (x15 : S3) (x16 : Int) (b1 : S4) : stepOf (mkCx Try.prog (impl_SpotOk.c k) (impl_SpotOk.g k) : Cx impl_SpotOk.B4) (loopAt impl_SpotOk.bd 0) impl_SpotOk.H4 impl_SpotOk.X4.dec I (impl_SpotOk.Z4.enc (((), x15, x16, ()), (b1, ()))) = impl_SpotOk.s4 k (fun x15 x16 b1 => I (impl_SpotOk.Z4.enc (((), x15, x16, ()), (b1, ())))) x15 x16 b1 := by kernel_rfl
theorem impl_SpotOk.i4 (k : Nat) : ∀ (n : Nat) (x15 : S3) (x16 : Int) (b1 : S4), iter (evCode (mkCx Try.prog (impl_SpotOk.c k) (impl_SpotOk.g k) : Cx impl_SpotOk.B4) (loopAt impl_SpotOk.bd 0)) impl_SpotOk.H4 impl_SpotOk.X4.dec n (impl_SpotOk.Z4.enc (((), x15, x16, ()), (b1, ()))) = impl_SpotOk.l4 k n x15 x16 b1
  | 0, _, _, _ => rfl
  | n + 1, x15, x16, b1 => ((iter_step _ _ _ _ n _).trans (impl_SpotOk.t4 k _ x15 x16 b1)).trans (congrArg (fun J => impl_SpotOk.s4 k J x15 x16 b1) (funext fun x15 => funext fun x16 => funext fun b1 => impl_SpotOk.i4 k n x15 x16 b1))
theorem impl_SpotOk.to4 (k : Nat) (hC : AllFun Try.prog (impl_SpotOk.c k)) : LoopTo Try.prog 34 (impl_SpotOk.e4 k) (loopAt impl_SpotOk.bd 0) := loop_to mixed hC (by kernel_rfl) (loops_all 0 (by kernel_rfl) fun i hi => absurd hi (Nat.not_lt_zero i)) fun a b h => ⟨k, (impl_SpotOk.i4 k k a.1.2.1 a.1.2.2.1 a.2.1).trans h⟩
theorem impl_SpotOk.link (k : Nat) (a0 : S4) : evFun (mkCx Try.prog (impl_SpotOk.c k) (impl_SpotOk.g k) : Cx Bool) Try.f86 ((impl_SpotOk.e k).args.enc (a0, ())) (impl_SpotOk.e k).ret.dec = impl_SpotOk.f k a0 := by kernel_rfl
theorem impl_SpotOk.ok1 (k : Nat) (hC : AllFun Try.prog (impl_SpotOk.c k)) : Fun Try.prog 86 (impl_SpotOk.e k).G := fun_ok mixed (body := impl_SpotOk.bd) Try.func86 (by kernel_rfl) (by kernel_rfl) (by kernel_rfl) hC (loops_all 1 (by kernel_rfl) fun i hi => by obtain rfl : i = 0 := Nat.lt_one_iff.1 hi; exact ⟨impl_SpotOk.e4 k, by kernel_rfl, impl_SpotOk.to4 k hC⟩) (impl_SpotOk.e k) (fun a => Nat.le_of_ble_eq_true (by kernel_rfl)) fun a b h => (impl_SpotOk.link k a.1).trans h
theorem impl_SpotOk.ok (k : Nat) : Fun Try.prog 86 (impl_SpotOk.e k).G := impl_SpotOk.ok1 k ⟨impl_inRange.ok k, impl_divisor.ok k, trivial⟩

noncomputable def impl_sideAt.f (k : Nat) (a0 : S4) (a1 : S4) : Option Int :=
  (impl_sign.f k  (W ((W ((W ((W (a0.a * a1.a)) + (W (a0.b * a1.b)))) + (W (a0.c * a1.c)))) + (W (a0.d * a1.d))))).bind fun t1 => some t1
noncomputable def impl_sideAt.e (k : Nat) : FE := { α := S4 × S4 × Unit, β := Int, args := (lCons aS4 (lCons aS4 lNil)), ret := (rOne (aI .i64)), f := fun p => impl_sideAt.f k p.1 p.2.1 }
noncomputable def impl_sideAt.c (k : Nat) : List (Nat × CE) := [(131, .fn (impl_sign.e k))]
noncomputable def impl_sideAt.bd : Code := match Try.f115.body with | some c => c | none => .skip
noncomputable def impl_sideAt.g (k : Nat) : List (Nat × LE) := []
theorem impl_sideAt.link (k : Nat) (a0 : S4) (a1 : S4) : evFun (mkCx Try.prog (impl_sideAt.c k) (impl_sideAt.g k) : Cx Int) Try.f115 ((impl_sideAt.e k).args.enc (a0, a1, ())) (impl_sideAt.e k).ret.dec = impl_sideAt.f k a0 a1 := by kernel_rfl
theorem impl_sideAt.ok1 (k : Nat) (hC : AllFun Try.prog (impl_sideAt.c k)) : Fun Try.prog 115 (impl_sideAt.e k).G := fun_ok mixed (body := impl_sideAt.bd) Try.func115 (by kernel_rfl) (by kernel_rfl) (by kernel_rfl) hC (loops_all 0 (by kernel_rfl) fun i hi => absurd hi (Nat.not_lt_zero i)) (impl_sideAt.e k) (fun a => Nat.le_of_ble_eq_true (by kernel_rfl)) fun a b h => (impl_sideAt.link k a.1 a.2.1).trans h
theorem impl_sideAt.ok (k : Nat) : Fun Try.prog 115 (impl_sideAt.e k).G := impl_sideAt.ok1 k ⟨impl_sign.ok k, trivial⟩

noncomputable def impl_Solid_around.fs (k : Nat) (self87 : Tree → S4 → Option (Int × Int × Unit)) (a0 : Tree) (a1 : S4) : Option (Int × Int × Unit) :=
  (impl_Solid_isLeaf.f k  (T1 a0)).bind fun t1 => if t1 = true then (if a0.inn = true then (some (1, 0, ())) else (some (0, 1, ()))) else ((impl_sideAt.f k  a0.p a1).bind fun t2 => if (decide (t2 ≥ 0)) = true then (if 0 ≤ 0 then (if 0 < (a0.kids.length : Int) then ((self87  (T1 (rd a0.kids 0)) a1).bind fun t3 => if (decide (t2 ≤ 0)) = true then (if 0 ≤ 1 then (if 1 < (a0.kids.length : Int) then ((self87  (T1 (rd a0.kids 1)) a1).bind fun t4 => some ((W (t3.1 + t4.1)), (W (t3.2.1 + t4.2.1)), ())) else none) else none) else (some (t3.1, t3.2.1, ()))) else none) else none) else (if (decide (t2 ≤ 0)) = true then (if 0 ≤ 1 then (if 1 < (a0.kids.length : Int) then ((self87  (T1 (rd a0.kids 1)) a1).bind fun t5 => some ((W (0 + t5.1)), (W (0 + t5.2.1)), ())) else none) else none) else (some (0, 0, ()))))
noncomputable def impl_Solid_around.f : Nat → Tree → S4 → Option (Int × Int × Unit)
  | 0, _, _ => none
  | k + 1, a0, a1 => impl_Solid_around.fs k (impl_Solid_around.f k) a0 a1
theorem impl_Solid_around.fS (k : Nat) (a0 : Tree) (a1 : S4) : impl_Solid_around.f (k + 1) a0 a1 = impl_Solid_around.fs k (impl_Solid_around.f k) a0 a1 := by first | rfl | rw [impl_Solid_around.f]
noncomputable def impl_Solid_around.e (k : Nat) : FE := { α := Tree × S4 × Unit, β := (Int × Int × Unit), args := (lCons aTreeP (lCons aS4 lNil)), ret := (rMany (lCons (aI .i64) (lCons (aI .i64) lNil))), f := fun p => impl_Solid_around.f k p.1 p.2.1 }
noncomputable def impl_Solid_around.c (k : Nat) : List (Nat × CE) := [(106, .fn (impl_Solid_isLeaf.e k)), (115, .fn (impl_sideAt.e k)), (87, .fn (impl_Solid_around.e k))]
noncomputable def impl_Solid_around.bd : Code := match Try.f87.body with | some c => c | none => .skip
noncomputable def impl_Solid_around.g (k : Nat) : List (Nat × LE) := []
theorem impl_Solid_around.link (k : Nat) (a0 : Tree) (a1 : S4) : evFun (mkCx Try.prog (impl_Solid_around.c k) (impl_Solid_around.g k) : Cx (Int × Int × Unit)) Try.f87 ((impl_Solid_around.e (k + 1)).args.enc (a0, a1, ())) (impl_Solid_around.e (k + 1)).ret.dec = impl_Solid_around.fs k (impl_Solid_around.f k) a0 a1 := by kernel_rfl
theorem impl_Solid_around.ok1 (k : Nat) (hC : AllFun Try.prog (impl_Solid_around.c k)) : Fun Try.prog 87 (impl_Solid_around.e (k + 1)).G := fun_ok mixed (body := impl_Solid_around.bd) Try.func87 (by kernel_rfl) (by kernel_rfl) (by kernel_rfl) hC (loops_all 0 (by kernel_rfl) fun i hi => absurd hi (Nat.not_lt_zero i)) (impl_Solid_around.e (k + 1)) (fun a => Nat.le_of_ble_eq_true (by kernel_rfl)) fun a b h => (impl_Solid_around.link k a.1 a.2.1).trans ((impl_Solid_around.fS k a.1 a.2.1).symm.trans h)
theorem impl_Solid_around.ok : ∀ k, Fun Try.prog 87 (impl_Solid_around.e k).G
  | 0 => fun_zero (by kernel_rfl) fun _ => rfl
  | k + 1 => impl_Solid_around.ok1 k ⟨impl_Solid_isLeaf.ok k, impl_sideAt.ok k, impl_Solid_around.ok k, trivial⟩

noncomputable def impl_Around.f (k : Nat) (a0 : Tree) (a1 : S4) : Option (Int × Int × Unit) :=
  (impl_SpotOk.f k  a1).bind fun t1 => if (!t1) = true then (some (0, 0, ())) else ((impl_SolidOk.f k  (T1 a0)).bind fun t2 => if (!t2) = true then (some (0, 0, ())) else ((impl_Solid_around.f k  (T1 a0) a1).bind fun t3 => some (t3.1, t3.2.1, ())))
noncomputable def impl_Around.e (k : Nat) : FE := { α := Tree × S4 × Unit, β := (Int × Int × Unit), args := (lCons aTree (lCons aS4 lNil)), ret := (rMany (lCons (aI .i64) (lCons (aI .i64) lNil))), f := fun p => impl_Around.f k p.1 p.2.1 }
noncomputable def impl_Around.c (k : Nat) : List (Nat × CE) := [(86, .fn (impl_SpotOk.e k)), (26, .fn (impl_SolidOk.e k)), (87, .fn (impl_Solid_around.e k))]
noncomputable def impl_Around.bd : Code := match Try.f42.body with | some c => c | none => .skip
noncomputable def impl_Around.g (k : Nat) : List (Nat × LE) := []
theorem impl_Around.link (k : Nat) (a0 : Tree) (a1 : S4) : evFun (mkCx Try.prog (impl_Around.c k) (impl_Around.g k) : Cx (Int × Int × Unit)) Try.f42 ((impl_Around.e k).args.enc (a0, a1, ())) (impl_Around.e k).ret.dec = impl_Around.f k a0 a1 := by kernel_rfl
theorem impl_Around.ok1 (k : Nat) (hC : AllFun Try.prog (impl_Around.c k)) : Fun Try.prog 42 (impl_Around.e k).G := fun_ok mixed (body := impl_Around.bd) Try.func42 (by kernel_rfl) (by kernel_rfl) (by kernel_rfl) hC (loops_all 0 (by kernel_rfl) fun i hi => absurd hi (Nat.not_lt_zero i)) (impl_Around.e k) (fun a => Nat.le_of_ble_eq_true (by kernel_rfl)) fun a b h => (impl_Around.link k a.1 a.2.1).trans h
theorem impl_Around.ok (k : Nat) : Fun Try.prog 42 (impl_Around.e k).G := impl_Around.ok1 k ⟨impl_SpotOk.ok k, impl_SolidOk.ok k, impl_Solid_around.ok k, trivial⟩

noncomputable def laws_FnExactAround.f (k : Nat) (a0 : Tree) (a1 : S4) : Option Bool :=
  (laws_szSolid.f k  (T1 a0) 1048576).bind fun t1 => if (decide (t1 < 0)) = true then (some true) else ((laws_toSolid.f k  (T1 a0)).bind fun t2 => (laws_toSpot.f k  a1).bind fun t3 => (spec_Around.f k  (T1 t2) t3).bind fun t4 => (laws_toSolid.f k  (T1 a0)).bind fun t5 => (laws_toSpot.f k  a1).bind fun t6 => (impl_Around.f k  (T1 t5) t6).bind fun t7 => if (t7.1 != t4.1) = true then (some false) else (if (t7.2.1 != t4.2.1) = true then (some false) else ((laws_toSolid.f k  (T1 a0)).bind fun t8 => (laws_eqSolid.f k  (T1 t5) (T1 t8)).bind fun t9 => if (!t9) = true then (some false) else (some true))))
noncomputable def laws_FnExactAround.e (k : Nat) : FE := { α := Tree × S4 × Unit, β := Bool, args := (lCons aTree (lCons aS4 lNil)), ret := (rOne aB), f := fun p => laws_FnExactAround.f k p.1 p.2.1 }
noncomputable def laws_FnExactAround.c (k : Nat) : List (Nat × CE) := [(21, .fn (laws_szSolid.e k)), (23, .fn (laws_toSolid.e k)), (41, .fn (laws_toSpot.e k)), (40, .fn (spec_Around.e k)), (42, .fn (impl_Around.e k)), (18, .fn (laws_eqSolid.e k))]
noncomputable def laws_FnExactAround.bd : Code := match Try.f9.body with | some c => c | none => .skip
noncomputable def laws_FnExactAround.g (k : Nat) : List (Nat × LE) := []
theorem laws_FnExactAround.link (k : Nat) (a0 : Tree) (a1 : S4) : evFun (mkCx Try.prog (laws_FnExactAround.c k) (laws_FnExactAround.g k) : Cx Bool) Try.f9 ((laws_FnExactAround.e k).args.enc (a0, a1, ())) (laws_FnExactAround.e k).ret.dec = laws_FnExactAround.f k a0 a1 := by kernel_rfl
theorem laws_FnExactAround.ok1 (k : Nat) (hC : AllFun Try.prog (laws_FnExactAround.c k)) : Fun Try.prog 9 (laws_FnExactAround.e k).G := fun_ok mixed (body := laws_FnExactAround.bd) Try.func9 (by kernel_rfl) (by kernel_rfl) (by kernel_rfl) hC (loops_all 0 (by kernel_rfl) fun i hi => absurd hi (Nat.not_lt_zero i)) (laws_FnExactAround.e k) (fun a => Nat.le_of_ble_eq_true (by kernel_rfl)) fun a b h => (laws_FnExactAround.link k a.1 a.2.1).trans h
theorem laws_FnExactAround.ok (k : Nat) : Fun Try.prog 9 (laws_FnExactAround.e k).G := laws_FnExactAround.ok1 k ⟨laws_szSolid.ok k, laws_toSolid.ok k, laws_toSpot.ok k, spec_Around.ok k, impl_Around.ok k, laws_eqSolid.ok k, trivial⟩

noncomputable def spec_l9Convex.H2 : Hd := ⟨[], [0, 1, 4, 5], [4]⟩
@[reducible] def spec_l9Convex.A2 : Type := (((List S4) × (List S4) × Unit × Int × Unit) × (Tree × Unit))
noncomputable def spec_l9Convex.Z2 : SC spec_l9Convex.A2 := sC spec_l9Convex.H2 (eCons 0 (tP (aSl .s4)) (eCons 1 (tP (aSl .s4)) (eCons 4 (tRef 4 0) (eCons 5 (tP (aI .i64)) eNil)))) (bCons 4 (xVr cTree) bNil)
@[reducible] def spec_l9Convex.B2 : Type := ((Unit × Unit) × (Tree × Unit)) ⊕ ((Unit × Unit) × (Tree × Unit))
noncomputable def spec_l9Convex.X2 : XC spec_l9Convex.B2 := xOr (xRet (sC ⟨[], [4], [4]⟩ (eCons 4 (tRef 4 0) eNil) (bCons 4 (xVr cTree) bNil))) (xExit 0 (sC ⟨[], [4], [4]⟩ (eCons 4 (tRef 4 0) eNil) (bCons 4 (xVr cTree) bNil)))
noncomputable def spec_l9Convex.s2 (k : Nat) (self88 : (List S4) → (List S4) → Option Tree) (J : (List S4) → (List S4) → Int → Tree → Option spec_l9Convex.B2) (x0 : List S4) (x1 : List S4) (x5 : Int) (b4 : Tree) : Option spec_l9Convex.B2 :=
  if (decide (x5 < (x0.length : Int))) = true then (if 0 ≤ x5 then (if x5 < (x0.length : Int) then ((spec_l3Flip.f k  (rd x0 x5)).bind fun t1 => (spec_l6With.f k  x1 t1).bind fun t2 => if (!t2) = true then (if 0 ≤ x5 then (if x5 < (x0.length : Int) then ((spec_l6With.f k  x1 (rd x0 x5)).bind fun t3 => if (!t3) = true then (if 0 ≤ x5 then (if x5 < (x0.length : Int) then (if 0 ≤ (W (x5 + 1)) then (if (W (x5 + 1)) ≤ (x0.length : Int) then (if 0 ≤ x5 then (if x5 < (x0.length : Int) then ((spec_l8Path.f k  x1 (rd x0 x5)).bind fun t4 => (self88  (x0.drop ((W (x5 + 1)).toNat)) t4).bind fun t5 => (spec_Leaf.f k  false).bind fun t6 => (spec_l8Node.f k  (rd x0 x5) (T1 t5) (T1 t6)).bind fun t7 => some (.inl (((), ()), ((T1 t7), ())))) else none) else none) else none) else none) else none) else none) else (J x0 x1 (W (x5 + 1)) (T1 b4))) else none) else none) else (J x0 x1 (W (x5 + 1)) (T1 b4))) else none) else none) else (some (.inr (((), ()), ((T1 b4), ()))))
noncomputable def spec_l9Convex.l2 (k : Nat) (self88 : (List S4) → (List S4) → Option Tree) : Nat → (List S4) → (List S4) → Int → Tree → Option spec_l9Convex.B2
  | 0, _, _, _, _ => none
  | n + 1, x0, x1, x5, b4 => spec_l9Convex.s2 k self88 (spec_l9Convex.l2 k self88 n) x0 x1 x5 b4
noncomputable def spec_l9Convex.fs (k : Nat) (self88 : (List S4) → (List S4) → Option Tree) (a0 : List S4) (a1 : List S4) : Option Tree :=
  (spec_l9Convex.l2 k self88 k a0 a1 0 (Tree.mk false ⟨0, 0, 0, 0⟩ ([] : List Tree))).bind fun | .inl r8 => (some (T1 r8.2.1)) | .inr x9 => ((spec_Leaf.f k  true).bind fun t10 => some (T1 t10))
noncomputable def spec_l9Convex.f : Nat → (List S4) → (List S4) → Option Tree
  | 0, _, _ => none
  | k + 1, a0, a1 => spec_l9Convex.fs k (spec_l9Convex.f k) a0 a1
theorem spec_l9Convex.fS (k : Nat) (a0 : List S4) (a1 : List S4) : spec_l9Convex.f (k + 1) a0 a1 = spec_l9Convex.fs k (spec_l9Convex.f k) a0 a1 := by first | rfl | rw [spec_l9Convex.f]
noncomputable def spec_l9Convex.e (k : Nat) : FE := { α := (List S4) × (List S4) × Unit, β := Tree, args := (lCons (aSl .s4) (lCons (aSl .s4) lNil)), ret := (rOne aTree), f := fun p => spec_l9Convex.f k p.1 p.2.1 }
noncomputable def spec_l9Convex.c (k : Nat) : List (Nat × CE) := [(105, .fn (spec_l3Flip.e k)), (104, .fn (spec_l6With.e k)), (94, .fn (spec_l8Path.e k)), (88, .fn (spec_l9Convex.e k)), (58, .fn (spec_Leaf.e k)), (59, .fn (spec_l8Node.e k))]
noncomputable def spec_l9Convex.bd : Code := match Try.f88.body with | some c => c | none => .skip
noncomputable def spec_l9Convex.e2 (k : Nat) : LE := { H := spec_l9Convex.H2, α := spec_l9Convex.A2, β := spec_l9Convex.B2, st := spec_l9Convex.Z2, xt := spec_l9Convex.X2, f := fun p => spec_l9Convex.l2 k (spec_l9Convex.f k) k p.1.1 p.1.2.1 p.1.2.2.2.1 p.2.1 }
noncomputable def spec_l9Convex.g (k : Nat) : List (Nat × LE) := [(2, spec_l9Convex.e2 k)]
theorem spec_l9Convex.t2 (k : Nat) (I : S2 → Option spec_l9Convex.B2) (x0 : List S4) (x1 : List S4) (x5 : Int) (b4 : Tree) : stepOf (mkCx Try.prog (spec_l9Convex.c k) (spec_l9Convex.g k) : Cx spec_l9Convex.B2) (loopAt spec_l9Convex.bd 0) spec_l9Convex.H2 spec_l9Convex.X2.dec I (spec_l9Convex.Z2.enc ((x0, x1, (), x5, ()), (b4, ()))) = spec_l9Convex.s2 k (spec_l9Convex.f k) (fun x0 x1 x5 b4 => I (spec_l9Convex.Z2.enc ((x0, x1, (), x5, ()), (b4, ())))) x0 x1 x5 b4 := by kernel_rfl
theorem spec_l9Convex.i2 (k : Nat) : ∀ (n : Nat) (x0 : List S4) (x1 : List S4) (x5 : Int) (b4 : Tree), iter (evCode (mkCx Try.prog (spec_l9Convex.c k) (spec_l9Convex.g k) : Cx spec_l9Convex.B2) (loopAt spec_l9Convex.bd 0)) spec_l9Convex.H2 spec_l9Convex.X2.dec n (spec_l9Convex.Z2.enc ((x0, x1, (), x5, ()), (b4, ()))) = spec_l9Convex.l2 k (spec_l9Convex.f k) n x0 x1 x5 b4
  | 0, _, _, _, _ => rfl
  | n + 1, x0, x1, x5, b4 => ((iter_step _ _ _ _ n _).trans (spec_l9Convex.t2 k _ x0 x1 x5 b4)).trans (congrArg (fun J => spec_l9Convex.s2 k (spec_l9Convex.f k) J x0 x1 x5 b4) (funext fun x0 => funext fun x1 => funext fun x5 => funext fun b4 => spec_l9Convex.i2 k n x0 x1 x5 b4))
theorem spec_l9Convex.to2 (k : Nat) (hC : AllFun Try.prog (spec_l9Convex.c k)) : LoopTo Try.prog 47 (spec_l9Convex.e2 k) (loopAt spec_l9Convex.bd 0) := loop_to mixed hC (by kernel_rfl) (loops_all 0 (by kernel_rfl) fun i hi => absurd hi (Nat.not_lt_zero i)) fun a b h => ⟨k, (spec_l9Convex.i2 k k a.1.1 a.1.2.1 a.1.2.2.2.1 a.2.1).trans h⟩
theorem spec_l9Convex.link (k : Nat) (a0 : List S4) (a1 : List S4) : evFun (mkCx Try.prog (spec_l9Convex.c k) (spec_l9Convex.g k) : Cx Tree) Try.f88 ((spec_l9Convex.e (k + 1)).args.enc (a0, a1, ())) (spec_l9Convex.e (k + 1)).ret.dec = spec_l9Convex.fs k (spec_l9Convex.f k) a0 a1 := by kernel_rfl
theorem spec_l9Convex.ok1 (k : Nat) (hC : AllFun Try.prog (spec_l9Convex.c k)) : Fun Try.prog 88 (spec_l9Convex.e (k + 1)).G := fun_ok mixed (body := spec_l9Convex.bd) Try.func88 (by kernel_rfl) (by kernel_rfl) (by kernel_rfl) hC (loops_all 1 (by kernel_rfl) fun i hi => by obtain rfl : i = 0 := Nat.lt_one_iff.1 hi; exact ⟨spec_l9Convex.e2 k, by kernel_rfl, spec_l9Convex.to2 k hC⟩) (spec_l9Convex.e (k + 1)) (fun a => Nat.le_of_ble_eq_true (by kernel_rfl)) fun a b h => (spec_l9Convex.link k a.1 a.2.1).trans ((spec_l9Convex.fS k a.1 a.2.1).symm.trans h)
theorem spec_l9Convex.ok : ∀ k, Fun Try.prog 88 (spec_l9Convex.e k).G
  | 0 => fun_zero (by kernel_rfl) fun _ => rfl
  | k + 1 => spec_l9Convex.ok1 k ⟨spec_l3Flip.ok k, spec_l6With.ok k, spec_l8Path.ok k, spec_l9Convex.ok k, spec_Leaf.ok k, spec_l8Node.ok k, trivial⟩

noncomputable def spec_Convex.f (k : Nat) (a0 : List S4) : Option (Tree × Int × Unit) :=
  (spec_l6Right.f k  a0).bind fun t1 => if (!t1) = true then (some ((Tree.mk false ⟨0, 0, 0, 0⟩ ([] : List Tree)), 1, ())) else ((spec_l6Open.f k  a0).bind fun t2 => if (!t2) = true then ((spec_Leaf.f k  false).bind fun t3 => some ((T1 t3), 2, ())) else ((spec_l9Convex.f k  a0 ([] : List S4)).bind fun t4 => some ((T1 t4), 0, ())))
noncomputable def spec_Convex.e (k : Nat) : FE := { α := (List S4) × Unit, β := (Tree × Int × Unit), args := (lCons (aSl .s4) lNil), ret := (rMany (lCons aTree (lCons (aI .i64) lNil))), f := fun p => spec_Convex.f k p.1 }
noncomputable def spec_Convex.c (k : Nat) : List (Nat × CE) := [(76, .fn (spec_l6Right.e k)), (77, .fn (spec_l6Open.e k)), (58, .fn (spec_Leaf.e k)), (88, .fn (spec_l9Convex.e k))]
noncomputable def spec_Convex.bd : Code := match Try.f43.body with | some c => c | none => .skip
noncomputable def spec_Convex.g (k : Nat) : List (Nat × LE) := []
theorem spec_Convex.link (k : Nat) (a0 : List S4) : evFun (mkCx Try.prog (spec_Convex.c k) (spec_Convex.g k) : Cx (Tree × Int × Unit)) Try.f43 ((spec_Convex.e k).args.enc (a0, ())) (spec_Convex.e k).ret.dec = spec_Convex.f k a0 := by kernel_rfl
theorem spec_Convex.ok1 (k : Nat) (hC : AllFun Try.prog (spec_Convex.c k)) : Fun Try.prog 43 (spec_Convex.e k).G := fun_ok mixed (body := spec_Convex.bd) Try.func43 (by kernel_rfl) (by kernel_rfl) (by kernel_rfl) hC (loops_all 0 (by kernel_rfl) fun i hi => absurd hi (Nat.not_lt_zero i)) (spec_Convex.e k) (fun a => Nat.le_of_ble_eq_true (by kernel_rfl)) fun a b h => (spec_Convex.link k a.1).trans h
theorem spec_Convex.ok (k : Nat) : Fun Try.prog 43 (spec_Convex.e k).G := spec_Convex.ok1 k ⟨spec_l6Right.ok k, spec_l6Open.ok k, spec_Leaf.ok k, spec_l9Convex.ok k, trivial⟩

noncomputable def impl_convex.H3 : Hd := ⟨[(3, 24, .s4)], [2, 3, 8, 9, 10], [2]⟩
@[reducible] def impl_convex.A3 : Type := ((Unit × Unit × (List S4) × Int × Int × Unit) × (Tree × (List S4) × Unit))
noncomputable def impl_convex.Z3 : SC impl_convex.A3 := sC impl_convex.H3 (eCons 2 (tRef 2 0) (eCons 3 (tOsl 1000003) (eCons 8 (tP (aSl .s4)) (eCons 9 (tP (aI .i64)) (eCons 10 (tP (aI .i64)) eNil))))) (bCons 2 (xVr cTree) (bCons 1000003 (xRow 24 .s4) bNil))
@[reducible] def impl_convex.B3 : Type := ((Unit × Unit × Unit) × (Tree × (List S4) × Unit))
noncomputable def impl_convex.X3 : XC impl_convex.B3 := xExit 0 (sC ⟨[], [2, 3], [2]⟩ (eCons 2 (tRef 2 0) (eCons 3 (tOsl 1000003) eNil)) (bCons 2 (xVr cTree) (bCons 1000003 (xRow 24 .s4) bNil)))
noncomputable def impl_convex.s3 (k : Nat)  (J : (List S4) → Int → Int → Tree → (List S4) → Option impl_convex.B3) (x8 : List S4) (x9 : Int) (x10 : Int) (b2 : Tree) (b1000003 : List S4) : Option impl_convex.B3 :=
  if (decide (x10 < x9)) = true then (if 0 ≤ x10 then (if x10 < (x8.length : Int) then ((impl_flip.f k  (rd x8 x10)).bind fun t1 => (impl_room.f k  b1000003 t1).bind fun t2 => if t2 = true then (if lt47 (b1000003.length + ([(rd x8 x10)] : List S4).length) = true then (J x8 x9 (W (x10 + 1)) (T1 b2) (b1000003 ++ ([(rd x8 x10)] : List S4))) else none) else (J x8 x9 (W (x10 + 1)) (T1 b2) b1000003)) else none) else none) else (some (((), (), ()), ((T1 b2), b1000003, ())))
noncomputable def impl_convex.l3 (k : Nat)  : Nat → (List S4) → Int → Int → Tree → (List S4) → Option impl_convex.B3
  | 0, _, _, _, _, _ => none
  | n + 1, x8, x9, x10, b2, b1000003 => impl_convex.s3 k (impl_convex.l3 k n) x8 x9 x10 b2 b1000003
noncomputable def impl_convex.H10 : Hd := ⟨[], [2, 3, 6, 7], [2, 6]⟩
@[reducible] def impl_convex.A10 : Type := ((Unit × Unit × Unit × Int × Unit) × (Tree × Tree × (List S4) × Unit))
noncomputable def impl_convex.Z10 : SC impl_convex.A10 := sC impl_convex.H10 (eCons 2 (tRef 2 0) (eCons 3 (tOsl 1000003) (eCons 6 (tRef 6 0) (eCons 7 (tP (aI .i64)) eNil)))) (bCons 2 (xVr cTree) (bCons 6 (xVr cTree) (bCons 1000003 (xRow 24 .s4) bNil)))
@[reducible] def impl_convex.B10 : Type := ((Unit × Unit × Unit) × (Tree × Tree × Unit))
noncomputable def impl_convex.X10 : XC impl_convex.B10 := xExit 2 (sC ⟨[], [2, 6], [2, 6]⟩ (eCons 2 (tRef 2 0) (eCons 6 (tRef 6 0) eNil)) (bCons 2 (xVr cTree) (bCons 6 (xVr cTree) bNil)))
noncomputable def impl_convex.s10 (k : Nat)  (J : Int → Tree → Tree → (List S4) → Option impl_convex.B10) (x7 : Int) (b2 : Tree) (b6 : Tree) (b1000003 : List S4) : Option impl_convex.B10 :=
  if (decide (x7 ≥ 0)) = true then (if 0 ≤ x7 then (if x7 < (b1000003.length : Int) then (if x7.toNat < b1000003.length then ((impl_Leaf.f k  false).bind fun t5 => (impl_node.f k  (b1000003.getD x7.toNat default) (T1 b6) (T1 t5)).bind fun t6 => J (W (x7 - 1)) (T1 b2) (T1 t6) b1000003) else none) else none) else none) else (some (((), (), ()), ((T1 b2), (T1 b6), ())))
noncomputable def impl_convex.l10 (k : Nat)  : Nat → Int → Tree → Tree → (List S4) → Option impl_convex.B10
  | 0, _, _, _, _ => none
  | n + 1, x7, b2, b6, b1000003 => impl_convex.s10 k (impl_convex.l10 k n) x7 b2 b6 b1000003
noncomputable def impl_convex.f (k : Nat) (a0 : List S4) : Option Tree :=
  (impl_convex.l3 k k a0 (a0.length : Int) 0 (Tree.mk false ⟨0, 0, 0, 0⟩ ([] : List Tree)) ([] : List S4)).bind fun x3 => (impl_Leaf.f k  true).bind fun t4 => (impl_convex.l10 k k (W ((x3.2.2.1.length : Int) - 1)) (T1 x3.2.1) (T1 t4) x3.2.2.1).bind fun x7 => some (T1 x7.2.2.1)
noncomputable def impl_convex.e (k : Nat) : FE := { α := (List S4) × Unit, β := Tree, args := (lCons (aSl .s4) lNil), ret := (rOne aTree), f := fun p => impl_convex.f k p.1 }
noncomputable def impl_convex.c (k : Nat) : List (Nat × CE) := [(107, .fn (impl_flip.e k)), (108, .fn (impl_room.e k)), (62, .fn (impl_Leaf.e k)), (61, .fn (impl_node.e k))]
noncomputable def impl_convex.bd : Code := match Try.f89.body with | some c => c | none => .skip
noncomputable def impl_convex.e3 (k : Nat) : LE := { H := impl_convex.H3, α := impl_convex.A3, β := impl_convex.B3, st := impl_convex.Z3, xt := impl_convex.X3, f := fun p => impl_convex.l3 k k p.1.2.2.1 p.1.2.2.2.1 p.1.2.2.2.2.1 p.2.1 p.2.2.1 }
noncomputable def impl_convex.e10 (k : Nat) : LE := { H := impl_convex.H10, α := impl_convex.A10, β := impl_convex.B10, st := impl_convex.Z10, xt := impl_convex.X10, f := fun p => impl_convex.l10 k k p.1.2.2.2.1 p.2.1 p.2.2.1 p.2.2.2.1 }
noncomputable def impl_convex.g (k : Nat) : List (Nat × LE) := [(3, impl_convex.e3 k), (10, impl_convex.e10 k)]
theorem impl_convex.t3 (k : Nat) (I : S2 → Option impl_convex.B3) (x8 : List S4) (x9 : Int) (x10 : Int) (b2 : Tree) (b1000003 : List S4) : stepOf (mkCx Try.prog (impl_convex.c k) (impl_convex.g k) : Cx impl_convex.B3) (loopAt impl_convex.bd 0) impl_convex.H3 impl_convex.X3.dec I (impl_convex.Z3.enc (((), (), x8, x9, x10, ()), (b2, b1000003, ()))) = impl_convex.s3 k (fun x8 x9 x10 b2 b1000003 => I (impl_convex.Z3.enc (((), (), x8, x9, x10, ()), (b2, b1000003, ())))) x8 x9 x10 b2 b1000003 := by kernel_rfl
theorem impl_convex.i3 (k : Nat) : ∀ (n : Nat) (x8 : List S4) (x9 : Int) (x10 : Int) (b2 : Tree) (b1000003 : List S4), iter (evCode (mkCx Try.prog (impl_convex.c k) (impl_convex.g k) : Cx impl_convex.B3) (loopAt impl_convex.bd 0)) impl_convex.H3 impl_convex.X3.dec n (impl_convex.Z3.enc (((), (), x8, x9, x10, ()), (b2, b1000003, ()))) = impl_convex.l3 k n x8 x9 x10 b2 b1000003
  | 0, _, _, _, _, _ => rfl
  | n + 1, x8, x9, x10, b2, b1000003 => ((iter_step _ _ _ _ n _).trans (impl_convex.t3 k _ x8 x9 x10 b2 b1000003)).trans (congrArg (fun J => impl_convex.s3 k J x8 x9 x10 b2 b1000003) (funext fun x8 => funext fun x9 => funext fun x10 => funext fun b2 => funext fun b1000003 => impl_convex.i3 k n x8 x9 x10 b2 b1000003))
theorem impl_convex.t10 (k : Nat) (I : S2 → Option impl_convex.B10) (x7 : Int) (b2 : Tree) (b6 : Tree) (b1000003 : List S4) : stepOf (mkCx Try.prog (impl_convex.c k) (impl_convex.g k) : Cx impl_convex.B10) (loopAt impl_convex.bd 1) impl_convex.H10 impl_convex.X10.dec I (impl_convex.Z10.enc (((), (), (), x7, ()), (b2, b6, b1000003, ()))) = impl_convex.s10 k (fun x7 b2 b6 b1000003 => I (impl_convex.Z10.enc (((), (), (), x7, ()), (b2, b6, b1000003, ())))) x7 b2 b6 b1000003 := by kernel_rfl
theorem impl_convex.i10 (k : Nat) : ∀ (n : Nat) (x7 : Int) (b2 : Tree) (b6 : Tree) (b1000003 : List S4), iter (evCode (mkCx Try.prog (impl_convex.c k) (impl_convex.g k) : Cx impl_convex.B10) (loopAt impl_convex.bd 1)) impl_convex.H10 impl_convex.X10.dec n (impl_convex.Z10.enc (((), (), (), x7, ()), (b2, b6, b1000003, ()))) = impl_convex.l10 k n x7 b2 b6 b1000003
  | 0, _, _, _, _ => rfl
  | n + 1, x7, b2, b6, b1000003 => ((iter_step _ _ _ _ n _).trans (impl_convex.t10 k _ x7 b2 b6 b1000003)).trans (congrArg (fun J => impl_convex.s10 k J x7 b2 b6 b1000003) (funext fun x7 => funext fun b2 => funext fun b6 => funext fun b1000003 => impl_convex.i10 k n x7 b2 b6 b1000003))
theorem impl_convex.to3 (k : Nat) (hC : AllFun Try.prog (impl_convex.c k)) : LoopTo Try.prog 39 (impl_convex.e3 k) (loopAt impl_convex.bd 0) := loop_to mixed hC (by kernel_rfl) (loops_all 0 (by kernel_rfl) fun i hi => absurd hi (Nat.not_lt_zero i)) fun a b h => ⟨k, (impl_convex.i3 k k a.1.2.2.1 a.1.2.2.2.1 a.1.2.2.2.2.1 a.2.1 a.2.2.1).trans h⟩
theorem impl_convex.to10 (k : Nat) (hC : AllFun Try.prog (impl_convex.c k)) : LoopTo Try.prog 39 (impl_convex.e10 k) (loopAt impl_convex.bd 1) := loop_to mixed hC (by kernel_rfl) (loops_all 0 (by kernel_rfl) fun i hi => absurd hi (Nat.not_lt_zero i)) fun a b h => ⟨k, (impl_convex.i10 k k a.1.2.2.2.1 a.2.1 a.2.2.1 a.2.2.2.1).trans h⟩
theorem impl_convex.link (k : Nat) (a0 : List S4) : evFun (mkCx Try.prog (impl_convex.c k) (impl_convex.g k) : Cx Tree) Try.f89 ((impl_convex.e k).args.enc (a0, ())) (impl_convex.e k).ret.dec = impl_convex.f k a0 := by kernel_rfl
theorem impl_convex.ok1 (k : Nat) (hC : AllFun Try.prog (impl_convex.c k)) : Fun Try.prog 89 (impl_convex.e k).G := fun_ok mixed (body := impl_convex.bd) Try.func89 (by kernel_rfl) (by kernel_rfl) (by kernel_rfl) hC (loops_all 2 (by kernel_rfl) fun i hi => match i, hi with | 0, _ => ⟨impl_convex.e3 k, by kernel_rfl, impl_convex.to3 k hC⟩ | 1, _ => ⟨impl_convex.e10 k, by kernel_rfl, impl_convex.to10 k hC⟩ | i + 2, hi => absurd hi (by omega)) (impl_convex.e k) (fun a => Nat.le_of_ble_eq_true (by kernel_rfl)) fun a b h => (impl_convex.link k a.1).trans h
theorem impl_convex.ok (k : Nat) : Fun Try.prog 89 (impl_convex.e k).G := impl_convex.ok1 k ⟨impl_flip.ok k, impl_room.ok k, impl_Leaf.ok k, impl_node.ok k, trivial⟩

noncomputable def impl_Convex.f (k : Nat) (a0 : List S4) : Option (Tree × Int × Unit) :=
  if (decide ((a0.length : Int) > 24)) = true then (some ((Tree.mk false ⟨0, 0, 0, 0⟩ ([] : List Tree)), 1, ())) else ((impl_planesOk.f k  a0).bind fun t1 => if (!t1) = true then (some ((Tree.mk false ⟨0, 0, 0, 0⟩ ([] : List Tree)), 1, ())) else ((impl_open.f k  a0).bind fun t2 => if (!t2) = true then (some ((Tree.mk false ⟨0, 0, 0, 0⟩ ([] : List Tree)), 2, ())) else ((impl_convex.f k  a0).bind fun t3 => some ((T1 t3), 0, ()))))
noncomputable def impl_Convex.e (k : Nat) : FE := { α := (List S4) × Unit, β := (Tree × Int × Unit), args := (lCons (aSl .s4) lNil), ret := (rMany (lCons aTree (lCons (aI .i64) lNil))), f := fun p => impl_Convex.f k p.1 }
noncomputable def impl_Convex.c (k : Nat) : List (Nat × CE) := [(79, .fn (impl_planesOk.e k)), (80, .fn (impl_open.e k)), (89, .fn (impl_convex.e k))]
noncomputable def impl_Convex.bd : Code := match Try.f44.body with | some c => c | none => .skip
noncomputable def impl_Convex.g (k : Nat) : List (Nat × LE) := []
theorem impl_Convex.link (k : Nat) (a0 : List S4) : evFun (mkCx Try.prog (impl_Convex.c k) (impl_Convex.g k) : Cx (Tree × Int × Unit)) Try.f44 ((impl_Convex.e k).args.enc (a0, ())) (impl_Convex.e k).ret.dec = impl_Convex.f k a0 := by kernel_rfl
theorem impl_Convex.ok1 (k : Nat) (hC : AllFun Try.prog (impl_Convex.c k)) : Fun Try.prog 44 (impl_Convex.e k).G := fun_ok mixed (body := impl_Convex.bd) Try.func44 (by kernel_rfl) (by kernel_rfl) (by kernel_rfl) hC (loops_all 0 (by kernel_rfl) fun i hi => absurd hi (Nat.not_lt_zero i)) (impl_Convex.e k) (fun a => Nat.le_of_ble_eq_true (by kernel_rfl)) fun a b h => (impl_Convex.link k a.1).trans h
theorem impl_Convex.ok (k : Nat) : Fun Try.prog 44 (impl_Convex.e k).G := impl_Convex.ok1 k ⟨impl_planesOk.ok k, impl_open.ok k, impl_convex.ok k, trivial⟩

noncomputable def spec_PtOk.f (k : Nat) (a0 : S3) : Option Bool :=
  (spec_l1In.f k  a0.x (-1000000) 1000000).bind fun t1 => if t1 = true then ((spec_l1In.f k  a0.y (-1000000) 1000000).bind fun t2 => if t2 = true then ((spec_l1In.f k  a0.z (-1000000) 1000000).bind fun t3 => some t3) else (some false)) else (some false)
noncomputable def spec_PtOk.e (k : Nat) : FE := { α := S3 × Unit, β := Bool, args := (lCons aS3 lNil), ret := (rOne aB), f := fun p => spec_PtOk.f k p.1 }
noncomputable def spec_PtOk.c (k : Nat) : List (Nat × CE) := [(112, .fn (spec_l1In.e k))]
noncomputable def spec_PtOk.bd : Code := match Try.f116.body with | some c => c | none => .skip
noncomputable def spec_PtOk.g (k : Nat) : List (Nat × LE) := []
theorem spec_PtOk.link (k : Nat) (a0 : S3) : evFun (mkCx Try.prog (spec_PtOk.c k) (spec_PtOk.g k) : Cx Bool) Try.f116 ((spec_PtOk.e k).args.enc (a0, ())) (spec_PtOk.e k).ret.dec = spec_PtOk.f k a0 := by kernel_rfl
theorem spec_PtOk.ok1 (k : Nat) (hC : AllFun Try.prog (spec_PtOk.c k)) : Fun Try.prog 116 (spec_PtOk.e k).G := fun_ok mixed (body := spec_PtOk.bd) Try.func116 (by kernel_rfl) (by kernel_rfl) (by kernel_rfl) hC (loops_all 0 (by kernel_rfl) fun i hi => absurd hi (Nat.not_lt_zero i)) (spec_PtOk.e k) (fun a => Nat.le_of_ble_eq_true (by kernel_rfl)) fun a b h => (spec_PtOk.link k a.1).trans h
theorem spec_PtOk.ok (k : Nat) : Fun Try.prog 116 (spec_PtOk.e k).G := spec_PtOk.ok1 k ⟨spec_l1In.ok k, trivial⟩

noncomputable def spec_l9Brick.f (k : Nat) (a0 : S3) (a1 : S3) : Option ((List S4) × Int × Unit) :=
  (spec_PtOk.f k  a0).bind fun t1 => if (!t1) = true then (some (([] : List S4), 1, ())) else ((spec_PtOk.f k  a1).bind fun t2 => if (!t2) = true then (some (([] : List S4), 1, ())) else ((spec_l6Right.f k  ([(⟨1, 0, 0, (W (0 - a0.x))⟩ : S4), (⟨(-1), 0, 0, a1.x⟩ : S4), (⟨0, 1, 0, (W (0 - a0.y))⟩ : S4), (⟨0, (-1), 0, a1.y⟩ : S4), (⟨0, 0, 1, (W (0 - a0.z))⟩ : S4), (⟨0, 0, (-1), a1.z⟩ : S4)] : List S4)).bind fun t3 => if (!t3) = true then (some (([] : List S4), 3, ())) else (some (([(⟨1, 0, 0, (W (0 - a0.x))⟩ : S4), (⟨(-1), 0, 0, a1.x⟩ : S4), (⟨0, 1, 0, (W (0 - a0.y))⟩ : S4), (⟨0, (-1), 0, a1.y⟩ : S4), (⟨0, 0, 1, (W (0 - a0.z))⟩ : S4), (⟨0, 0, (-1), a1.z⟩ : S4)] : List S4), 0, ()))))
noncomputable def spec_l9Brick.e (k : Nat) : FE := { α := S3 × S3 × Unit, β := ((List S4) × Int × Unit), args := (lCons aS3 (lCons aS3 lNil)), ret := (rMany (lCons (aSl .s4) (lCons (aI .i64) lNil))), f := fun p => spec_l9Brick.f k p.1 p.2.1 }
noncomputable def spec_l9Brick.c (k : Nat) : List (Nat × CE) := [(116, .fn (spec_PtOk.e k)), (76, .fn (spec_l6Right.e k))]
noncomputable def spec_l9Brick.bd : Code := match Try.f90.body with | some c => c | none => .skip
noncomputable def spec_l9Brick.g (k : Nat) : List (Nat × LE) := []
theorem spec_l9Brick.link (k : Nat) (a0 : S3) (a1 : S3) : evFun (mkCx Try.prog (spec_l9Brick.c k) (spec_l9Brick.g k) : Cx ((List S4) × Int × Unit)) Try.f90 ((spec_l9Brick.e k).args.enc (a0, a1, ())) (spec_l9Brick.e k).ret.dec = spec_l9Brick.f k a0 a1 := by kernel_rfl
theorem spec_l9Brick.ok1 (k : Nat) (hC : AllFun Try.prog (spec_l9Brick.c k)) : Fun Try.prog 90 (spec_l9Brick.e k).G := fun_ok mixed (body := spec_l9Brick.bd) Try.func90 (by kernel_rfl) (by kernel_rfl) (by kernel_rfl) hC (loops_all 0 (by kernel_rfl) fun i hi => absurd hi (Nat.not_lt_zero i)) (spec_l9Brick.e k) (fun a => Nat.le_of_ble_eq_true (by kernel_rfl)) fun a b h => (spec_l9Brick.link k a.1 a.2.1).trans h
theorem spec_l9Brick.ok (k : Nat) : Fun Try.prog 90 (spec_l9Brick.e k).G := spec_l9Brick.ok1 k ⟨spec_PtOk.ok k, spec_l6Right.ok k, trivial⟩

noncomputable def spec_Brick.f (k : Nat) (a0 : S3) (a1 : S3) : Option (Tree × Int × Unit) :=
  (spec_l9Brick.f k  a0 a1).bind fun t1 => if (t1.2.1 != 0) = true then (some ((Tree.mk false ⟨0, 0, 0, 0⟩ ([] : List Tree)), t1.2.1, ())) else ((spec_Convex.f k  t1.1).bind fun t2 => some ((T1 t2.1), t2.2.1, ()))
noncomputable def spec_Brick.e (k : Nat) : FE := { α := S3 × S3 × Unit, β := (Tree × Int × Unit), args := (lCons aS3 (lCons aS3 lNil)), ret := (rMany (lCons aTree (lCons (aI .i64) lNil))), f := fun p => spec_Brick.f k p.1 p.2.1 }
noncomputable def spec_Brick.c (k : Nat) : List (Nat × CE) := [(90, .fn (spec_l9Brick.e k)), (43, .fn (spec_Convex.e k))]
noncomputable def spec_Brick.bd : Code := match Try.f45.body with | some c => c | none => .skip
noncomputable def spec_Brick.g (k : Nat) : List (Nat × LE) := []
theorem spec_Brick.link (k : Nat) (a0 : S3) (a1 : S3) : evFun (mkCx Try.prog (spec_Brick.c k) (spec_Brick.g k) : Cx (Tree × Int × Unit)) Try.f45 ((spec_Brick.e k).args.enc (a0, a1, ())) (spec_Brick.e k).ret.dec = spec_Brick.f k a0 a1 := by kernel_rfl
theorem spec_Brick.ok1 (k : Nat) (hC : AllFun Try.prog (spec_Brick.c k)) : Fun Try.prog 45 (spec_Brick.e k).G := fun_ok mixed (body := spec_Brick.bd) Try.func45 (by kernel_rfl) (by kernel_rfl) (by kernel_rfl) hC (loops_all 0 (by kernel_rfl) fun i hi => absurd hi (Nat.not_lt_zero i)) (spec_Brick.e k) (fun a => Nat.le_of_ble_eq_true (by kernel_rfl)) fun a b h => (spec_Brick.link k a.1 a.2.1).trans h
theorem spec_Brick.ok (k : Nat) : Fun Try.prog 45 (spec_Brick.e k).G := spec_Brick.ok1 k ⟨spec_l9Brick.ok k, spec_Convex.ok k, trivial⟩

noncomputable def laws_toPt.f (k : Nat) (a0 : S3) : Option S3 :=
  some a0
noncomputable def laws_toPt.e (k : Nat) : FE := { α := S3 × Unit, β := S3, args := (lCons aS3 lNil), ret := (rOne aS3), f := fun p => laws_toPt.f k p.1 }
noncomputable def laws_toPt.c (k : Nat) : List (Nat × CE) := []
noncomputable def laws_toPt.bd : Code := match Try.f46.body with | some c => c | none => .skip
noncomputable def laws_toPt.g (k : Nat) : List (Nat × LE) := []
theorem laws_toPt.link (k : Nat) (a0 : S3) : evFun (mkCx Try.prog (laws_toPt.c k) (laws_toPt.g k) : Cx S3) Try.f46 ((laws_toPt.e k).args.enc (a0, ())) (laws_toPt.e k).ret.dec = laws_toPt.f k a0 := by kernel_rfl
theorem laws_toPt.ok1 (k : Nat) (hC : AllFun Try.prog (laws_toPt.c k)) : Fun Try.prog 46 (laws_toPt.e k).G := fun_ok mixed (body := laws_toPt.bd) Try.func46 (by kernel_rfl) (by kernel_rfl) (by kernel_rfl) hC (loops_all 0 (by kernel_rfl) fun i hi => absurd hi (Nat.not_lt_zero i)) (laws_toPt.e k) (fun a => Nat.le_of_ble_eq_true (by kernel_rfl)) fun a b h => (laws_toPt.link k a.1).trans h
theorem laws_toPt.ok (k : Nat) : Fun Try.prog 46 (laws_toPt.e k).G := laws_toPt.ok1 k trivial

noncomputable def impl_PtOk.f (k : Nat) (a0 : S3) : Option Bool :=
  (impl_inRange.f k  a0.x (-1000000) 1000000).bind fun t1 => if t1 = true then ((impl_inRange.f k  a0.y (-1000000) 1000000).bind fun t2 => if t2 = true then ((impl_inRange.f k  a0.z (-1000000) 1000000).bind fun t3 => some t3) else (some false)) else (some false)
noncomputable def impl_PtOk.e (k : Nat) : FE := { α := S3 × Unit, β := Bool, args := (lCons aS3 lNil), ret := (rOne aB), f := fun p => impl_PtOk.f k p.1 }
noncomputable def impl_PtOk.c (k : Nat) : List (Nat × CE) := [(114, .fn (impl_inRange.e k))]
noncomputable def impl_PtOk.bd : Code := match Try.f117.body with | some c => c | none => .skip
noncomputable def impl_PtOk.g (k : Nat) : List (Nat × LE) := []
theorem impl_PtOk.link (k : Nat) (a0 : S3) : evFun (mkCx Try.prog (impl_PtOk.c k) (impl_PtOk.g k) : Cx Bool) Try.f117 ((impl_PtOk.e k).args.enc (a0, ())) (impl_PtOk.e k).ret.dec = impl_PtOk.f k a0 := by kernel_rfl
theorem impl_PtOk.ok1 (k : Nat) (hC : AllFun Try.prog (impl_PtOk.c k)) : Fun Try.prog 117 (impl_PtOk.e k).G := fun_ok mixed (body := impl_PtOk.bd) Try.func117 (by kernel_rfl) (by kernel_rfl) (by kernel_rfl) hC (loops_all 0 (by kernel_rfl) fun i hi => absurd hi (Nat.not_lt_zero i)) (impl_PtOk.e k) (fun a => Nat.le_of_ble_eq_true (by kernel_rfl)) fun a b h => (impl_PtOk.link k a.1).trans h
theorem impl_PtOk.ok (k : Nat) : Fun Try.prog 117 (impl_PtOk.e k).G := impl_PtOk.ok1 k ⟨impl_inRange.ok k, trivial⟩

noncomputable def impl_brickPlanes.f (k : Nat) (a0 : S3) (a1 : S3) : Option ((List S4) × Int × Unit) :=
  (impl_PtOk.f k  a0).bind fun t1 => if (!t1) = true then (some (([] : List S4), 1, ())) else ((impl_PtOk.f k  a1).bind fun t2 => if (!t2) = true then (some (([] : List S4), 1, ())) else ((impl_planesOk.f k  ([(⟨1, 0, 0, (W (0 - a0.x))⟩ : S4), (⟨(-1), 0, 0, a1.x⟩ : S4), (⟨0, 1, 0, (W (0 - a0.y))⟩ : S4), (⟨0, (-1), 0, a1.y⟩ : S4), (⟨0, 0, 1, (W (0 - a0.z))⟩ : S4), (⟨0, 0, (-1), a1.z⟩ : S4)] : List S4)).bind fun t3 => if (!t3) = true then (some (([] : List S4), 3, ())) else (some (([(⟨1, 0, 0, (W (0 - a0.x))⟩ : S4), (⟨(-1), 0, 0, a1.x⟩ : S4), (⟨0, 1, 0, (W (0 - a0.y))⟩ : S4), (⟨0, (-1), 0, a1.y⟩ : S4), (⟨0, 0, 1, (W (0 - a0.z))⟩ : S4), (⟨0, 0, (-1), a1.z⟩ : S4)] : List S4), 0, ()))))
noncomputable def impl_brickPlanes.e (k : Nat) : FE := { α := S3 × S3 × Unit, β := ((List S4) × Int × Unit), args := (lCons aS3 (lCons aS3 lNil)), ret := (rMany (lCons (aSl .s4) (lCons (aI .i64) lNil))), f := fun p => impl_brickPlanes.f k p.1 p.2.1 }
noncomputable def impl_brickPlanes.c (k : Nat) : List (Nat × CE) := [(117, .fn (impl_PtOk.e k)), (79, .fn (impl_planesOk.e k))]
noncomputable def impl_brickPlanes.bd : Code := match Try.f91.body with | some c => c | none => .skip
noncomputable def impl_brickPlanes.g (k : Nat) : List (Nat × LE) := []
theorem impl_brickPlanes.link (k : Nat) (a0 : S3) (a1 : S3) : evFun (mkCx Try.prog (impl_brickPlanes.c k) (impl_brickPlanes.g k) : Cx ((List S4) × Int × Unit)) Try.f91 ((impl_brickPlanes.e k).args.enc (a0, a1, ())) (impl_brickPlanes.e k).ret.dec = impl_brickPlanes.f k a0 a1 := by kernel_rfl
theorem impl_brickPlanes.ok1 (k : Nat) (hC : AllFun Try.prog (impl_brickPlanes.c k)) : Fun Try.prog 91 (impl_brickPlanes.e k).G := fun_ok mixed (body := impl_brickPlanes.bd) Try.func91 (by kernel_rfl) (by kernel_rfl) (by kernel_rfl) hC (loops_all 0 (by kernel_rfl) fun i hi => absurd hi (Nat.not_lt_zero i)) (impl_brickPlanes.e k) (fun a => Nat.le_of_ble_eq_true (by kernel_rfl)) fun a b h => (impl_brickPlanes.link k a.1 a.2.1).trans h
theorem impl_brickPlanes.ok (k : Nat) : Fun Try.prog 91 (impl_brickPlanes.e k).G := impl_brickPlanes.ok1 k ⟨impl_PtOk.ok k, impl_planesOk.ok k, trivial⟩

noncomputable def impl_Brick.f (k : Nat) (a0 : S3) (a1 : S3) : Option (Tree × Int × Unit) :=
  (impl_brickPlanes.f k  a0 a1).bind fun t1 => if (t1.2.1 != 0) = true then (some ((Tree.mk false ⟨0, 0, 0, 0⟩ ([] : List Tree)), t1.2.1, ())) else ((impl_Convex.f k  t1.1).bind fun t2 => some ((T1 t2.1), t2.2.1, ()))
noncomputable def impl_Brick.e (k : Nat) : FE := { α := S3 × S3 × Unit, β := (Tree × Int × Unit), args := (lCons aS3 (lCons aS3 lNil)), ret := (rMany (lCons aTree (lCons (aI .i64) lNil))), f := fun p => impl_Brick.f k p.1 p.2.1 }
noncomputable def impl_Brick.c (k : Nat) : List (Nat × CE) := [(91, .fn (impl_brickPlanes.e k)), (44, .fn (impl_Convex.e k))]
noncomputable def impl_Brick.bd : Code := match Try.f47.body with | some c => c | none => .skip
noncomputable def impl_Brick.g (k : Nat) : List (Nat × LE) := []
theorem impl_Brick.link (k : Nat) (a0 : S3) (a1 : S3) : evFun (mkCx Try.prog (impl_Brick.c k) (impl_Brick.g k) : Cx (Tree × Int × Unit)) Try.f47 ((impl_Brick.e k).args.enc (a0, a1, ())) (impl_Brick.e k).ret.dec = impl_Brick.f k a0 a1 := by kernel_rfl
theorem impl_Brick.ok1 (k : Nat) (hC : AllFun Try.prog (impl_Brick.c k)) : Fun Try.prog 47 (impl_Brick.e k).G := fun_ok mixed (body := impl_Brick.bd) Try.func47 (by kernel_rfl) (by kernel_rfl) (by kernel_rfl) hC (loops_all 0 (by kernel_rfl) fun i hi => absurd hi (Nat.not_lt_zero i)) (impl_Brick.e k) (fun a => Nat.le_of_ble_eq_true (by kernel_rfl)) fun a b h => (impl_Brick.link k a.1 a.2.1).trans h
theorem impl_Brick.ok (k : Nat) : Fun Try.prog 47 (impl_Brick.e k).G := impl_Brick.ok1 k ⟨impl_brickPlanes.ok k, impl_Convex.ok k, trivial⟩

noncomputable def spec_l10Where.f (k : Nat) (a0 : Int) (a1 : Int) : Option Int :=
  if (a0 == 0) = true then (some (-1)) else (if (a1 == 0) = true then (some 1) else (some 0))
noncomputable def spec_l10Where.e (k : Nat) : FE := { α := Int × Int × Unit, β := Int, args := (lCons (aI .i64) (lCons (aI .i64) lNil)), ret := (rOne (aI .i64)), f := fun p => spec_l10Where.f k p.1 p.2.1 }
noncomputable def spec_l10Where.c (k : Nat) : List (Nat × CE) := []
noncomputable def spec_l10Where.bd : Code := match Try.f92.body with | some c => c | none => .skip
noncomputable def spec_l10Where.g (k : Nat) : List (Nat × LE) := []
theorem spec_l10Where.link (k : Nat) (a0 : Int) (a1 : Int) : evFun (mkCx Try.prog (spec_l10Where.c k) (spec_l10Where.g k) : Cx Int) Try.f92 ((spec_l10Where.e k).args.enc (a0, a1, ())) (spec_l10Where.e k).ret.dec = spec_l10Where.f k a0 a1 := by kernel_rfl
theorem spec_l10Where.ok1 (k : Nat) (hC : AllFun Try.prog (spec_l10Where.c k)) : Fun Try.prog 92 (spec_l10Where.e k).G := fun_ok mixed (body := spec_l10Where.bd) Try.func92 (by kernel_rfl) (by kernel_rfl) (by kernel_rfl) hC (loops_all 0 (by kernel_rfl) fun i hi => absurd hi (Nat.not_lt_zero i)) (spec_l10Where.e k) (fun a => Nat.le_of_ble_eq_true (by kernel_rfl)) fun a b h => (spec_l10Where.link k a.1 a.2.1).trans h
theorem spec_l10Where.ok (k : Nat) : Fun Try.prog 92 (spec_l10Where.e k).G := spec_l10Where.ok1 k trivial

noncomputable def spec_Where.f (k : Nat) (a0 : Tree) (a1 : S4) : Option Int :=
  (spec_Around.f k  (T1 a0) a1).bind fun t1 => (spec_l10Where.f k  t1.1 t1.2.1).bind fun t2 => some t2
noncomputable def spec_Where.e (k : Nat) : FE := { α := Tree × S4 × Unit, β := Int, args := (lCons aTree (lCons aS4 lNil)), ret := (rOne (aI .i64)), f := fun p => spec_Where.f k p.1 p.2.1 }
noncomputable def spec_Where.c (k : Nat) : List (Nat × CE) := [(40, .fn (spec_Around.e k)), (92, .fn (spec_l10Where.e k))]
noncomputable def spec_Where.bd : Code := match Try.f48.body with | some c => c | none => .skip
noncomputable def spec_Where.g (k : Nat) : List (Nat × LE) := []
theorem spec_Where.link (k : Nat) (a0 : Tree) (a1 : S4) : evFun (mkCx Try.prog (spec_Where.c k) (spec_Where.g k) : Cx Int) Try.f48 ((spec_Where.e k).args.enc (a0, a1, ())) (spec_Where.e k).ret.dec = spec_Where.f k a0 a1 := by kernel_rfl
theorem spec_Where.ok1 (k : Nat) (hC : AllFun Try.prog (spec_Where.c k)) : Fun Try.prog 48 (spec_Where.e k).G := fun_ok mixed (body := spec_Where.bd) Try.func48 (by kernel_rfl) (by kernel_rfl) (by kernel_rfl) hC (loops_all 0 (by kernel_rfl) fun i hi => absurd hi (Nat.not_lt_zero i)) (spec_Where.e k) (fun a => Nat.le_of_ble_eq_true (by kernel_rfl)) fun a b h => (spec_Where.link k a.1 a.2.1).trans h
theorem spec_Where.ok (k : Nat) : Fun Try.prog 48 (spec_Where.e k).G := spec_Where.ok1 k ⟨spec_Around.ok k, spec_l10Where.ok k, trivial⟩

noncomputable def impl_where.f (k : Nat) (a0 : Int) (a1 : Int) : Option Int :=
  if (a0 == 0) = true then (some (-1)) else (if (a1 == 0) = true then (some 1) else (some 0))
noncomputable def impl_where.e (k : Nat) : FE := { α := Int × Int × Unit, β := Int, args := (lCons (aI .i64) (lCons (aI .i64) lNil)), ret := (rOne (aI .i64)), f := fun p => impl_where.f k p.1 p.2.1 }
noncomputable def impl_where.c (k : Nat) : List (Nat × CE) := []
noncomputable def impl_where.bd : Code := match Try.f93.body with | some c => c | none => .skip
noncomputable def impl_where.g (k : Nat) : List (Nat × LE) := []
theorem impl_where.link (k : Nat) (a0 : Int) (a1 : Int) : evFun (mkCx Try.prog (impl_where.c k) (impl_where.g k) : Cx Int) Try.f93 ((impl_where.e k).args.enc (a0, a1, ())) (impl_where.e k).ret.dec = impl_where.f k a0 a1 := by kernel_rfl
theorem impl_where.ok1 (k : Nat) (hC : AllFun Try.prog (impl_where.c k)) : Fun Try.prog 93 (impl_where.e k).G := fun_ok mixed (body := impl_where.bd) Try.func93 (by kernel_rfl) (by kernel_rfl) (by kernel_rfl) hC (loops_all 0 (by kernel_rfl) fun i hi => absurd hi (Nat.not_lt_zero i)) (impl_where.e k) (fun a => Nat.le_of_ble_eq_true (by kernel_rfl)) fun a b h => (impl_where.link k a.1 a.2.1).trans h
theorem impl_where.ok (k : Nat) : Fun Try.prog 93 (impl_where.e k).G := impl_where.ok1 k trivial

end Go.Proofs.Ytfgaeenlnkioaaa.G
