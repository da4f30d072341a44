/- Go functions told as plain Lean functions; that the code does what these tell. Printed by a program of the session (evp.py). -/
import Derived.Test.YtalkkenkeilmpaaEv16
import Derived.Test.YtalkkenkeilmpaaCk
namespace Go.Proofs.Ytalkkenkeilmpaa.G
open Go Go.RowKit Go.Proofs Go.Proofs.Ytalkkenkeilmpaa.Ev
set_option linter.unusedVariables false
set_option maxRecDepth 100000

noncomputable def laws_szSolidS.H5 : Hd := ⟨[], [0, 1, 5], [], [], []⟩
@[reducible] def laws_szSolidS.A5 : Type := (((List Tree) × Int × Int × Unit) × (Unit))
noncomputable def laws_szSolidS.Z5 : SC laws_szSolidS.A5 := sC laws_szSolidS.H5 (eCons 0 (tP (aSl .tree)) (eCons 1 (tP (aI .i64)) (eCons 5 (tP (aI .i64)) eNil))) bNil
@[reducible] def laws_szSolidS.B5 : Type := ((Int × Unit) × (Unit)) ⊕ ((Int × Unit) × (Unit))
noncomputable def laws_szSolidS.X5 : XC laws_szSolidS.B5 := xOr (xRet (sC ⟨[], [4], [], [], []⟩ (eCons 4 (tP (aI .i64)) eNil) bNil)) (xExit 0 (sC ⟨[], [1], [], [], []⟩ (eCons 1 (tP (aI .i64)) eNil) bNil))
noncomputable def laws_szSolidS.s5 (k : Nat) (self4 : Tree → Int → Option Int) (self13 : (List Tree) → Int → Option Int) (J : (List Tree) → Int → Int → Option laws_szSolidS.B5) (x0 : List Tree) (x1 : Int) (x5 : Int) : Option laws_szSolidS.B5 :=
  if (decide (x5 < (x0.length : Int))) = true then (if 0 ≤ x5 then (if x5 < (x0.length : Int) then ((self4  (T1 (rd x0 x5)) x1).bind fun t1 => if (decide (t1 < 0)) = true then (some (.inl (((-1), ()), (())))) else (J x0 t1 (W (x5 + 1)))) else none) else none) else (some (.inr ((x1, ()), (()))))
noncomputable def laws_szSolidS.l5 (k : Nat) (self4 : Tree → Int → Option Int) (self13 : (List Tree) → Int → Option Int) : Nat → (List Tree) → Int → Int → Option laws_szSolidS.B5
  | 0, _, _, _ => none
  | n + 1, x0, x1, x5 => laws_szSolidS.s5 k self4 self13 (laws_szSolidS.l5 k self4 self13 n) x0 x1 x5
noncomputable def laws_szSolidS.fs (k : Nat) (self4 : Tree → Int → Option Int) (self13 : (List Tree) → Int → Option Int) (a0 : List Tree) (a1 : Int) : Option Int :=
  if (decide ((W (a1 - (a0.length : Int))) < 0)) = true then (some (-1)) else ((laws_szSolidS.l5 k self4 self13 k a0 (W (a1 - (a0.length : Int))) 0).bind fun | .inl r2 => (some r2.1.1) | .inr x3 => (some x3.1.1))
noncomputable def laws_szSolid.fs (k : Nat) (self4 : Tree → Int → Option Int) (self13 : (List Tree) → Int → Option Int) (a0 : Tree) (a1 : Int) : Option Int :=
  (self13  a0.kids a1).bind fun t1 => if (decide (t1 < 0)) = true then (some (-1)) else (some t1)
mutual
noncomputable def laws_szSolidS.f : Nat → (List Tree) → Int → Option Int
  | 0, _, _ => none
  | k + 1, a0, a1 => laws_szSolidS.fs k (laws_szSolid.f k) (laws_szSolidS.f k) a0 a1
noncomputable def laws_szSolid.f : Nat → Tree → Int → Option Int
  | 0, _, _ => none
  | k + 1, a0, a1 => laws_szSolid.fs k (laws_szSolid.f k) (laws_szSolidS.f k) a0 a1
end
theorem laws_szSolidS.fS (k : Nat) (a0 : List Tree) (a1 : Int) : laws_szSolidS.f (k + 1) a0 a1 = laws_szSolidS.fs k (laws_szSolid.f k) (laws_szSolidS.f k) a0 a1 := by first | rfl | rw [laws_szSolidS.f]
theorem laws_szSolid.fS (k : Nat) (a0 : Tree) (a1 : Int) : laws_szSolid.f (k + 1) a0 a1 = laws_szSolid.fs k (laws_szSolid.f k) (laws_szSolidS.f k) a0 a1 := by first | rfl | rw [laws_szSolid.f]
noncomputable def laws_szSolidS.e (k : Nat) : FE := { α := (List Tree) × Int × Unit, β := Int, args := (lCons (aSl .tree) (lCons (aI .i64) lNil)), ret := (rOne (aI .i64)), f := fun p => laws_szSolidS.f k p.1 p.2.1 }
noncomputable def laws_szSolid.e (k : Nat) : FE := { α := Tree × Int × Unit, β := Int, args := (lCons aTree (lCons (aI .i64) lNil)), ret := (rOne (aI .i64)), f := fun p => laws_szSolid.f k p.1 p.2.1 }
noncomputable def laws_szSolidS.c (k : Nat) : List (Nat × CE) := [(4, .fn (laws_szSolid.e k))]
noncomputable def laws_szSolidS.bd : Code := match Try.f13.body with | some c => c | none => .skip
noncomputable def laws_szSolidS.e5 (k : Nat) : LE := { H := laws_szSolidS.H5, α := laws_szSolidS.A5, β := laws_szSolidS.B5, st := laws_szSolidS.Z5, xt := laws_szSolidS.X5, f := fun p => laws_szSolidS.l5 k (laws_szSolid.f k) (laws_szSolidS.f k) k p.1.1 p.1.2.1 p.1.2.2.1 }
noncomputable def laws_szSolidS.g (k : Nat) : List (Nat × LE) := [(5, laws_szSolidS.e5 k)]
theorem laws_szSolidS.t5 (k : Nat) (I : S2 → Option laws_szSolidS.B5) (x0 : List Tree) (x1 : Int) (x5 : Int) : stepOf (mkCx Try.prog (laws_szSolidS.c k) (laws_szSolidS.g k) : Cx laws_szSolidS.B5) (loopAt laws_szSolidS.bd 0) laws_szSolidS.H5 laws_szSolidS.X5.dec I (laws_szSolidS.Z5.enc ((x0, x1, x5, ()), (()))) = laws_szSolidS.s5 k (laws_szSolid.f k) (laws_szSolidS.f k) (fun x0 x1 x5 => I (laws_szSolidS.Z5.enc ((x0, x1, x5, ()), (())))) x0 x1 x5 := by kernel_rfl
theorem laws_szSolidS.i5 (k : Nat) : ∀ (n : Nat) (x0 : List Tree) (x1 : Int) (x5 : Int), iter (evCode (mkCx Try.prog (laws_szSolidS.c k) (laws_szSolidS.g k) : Cx laws_szSolidS.B5) (loopAt laws_szSolidS.bd 0)) laws_szSolidS.H5 laws_szSolidS.X5.dec n (laws_szSolidS.Z5.enc ((x0, x1, x5, ()), (()))) = laws_szSolidS.l5 k (laws_szSolid.f k) (laws_szSolidS.f k) n x0 x1 x5
  | 0, _, _, _ => rfl
  | n + 1, x0, x1, x5 => ((iter_step _ _ _ _ n _).trans (laws_szSolidS.t5 k _ x0 x1 x5)).trans (congrArg (fun J => laws_szSolidS.s5 k (laws_szSolid.f k) (laws_szSolidS.f k) J x0 x1 x5) (funext fun x0 => funext fun x1 => funext fun x5 => laws_szSolidS.i5 k n x0 x1 x5))
theorem laws_szSolidS.to5 (k : Nat) (hC : AllFun Try.prog (laws_szSolidS.c k)) : LoopTo Try.prog 27 (laws_szSolidS.e5 k) (loopAt laws_szSolidS.bd 0) := loop_to mixed hC (by kernel_rfl) (loops_all 0 (by kernel_rfl) fun i hi => absurd hi (Nat.not_lt_zero i)) fun a b h => ⟨k, (laws_szSolidS.i5 k k a.1.1 a.1.2.1 a.1.2.2.1).trans h⟩
theorem laws_szSolidS.link (k : Nat) (a0 : List Tree) (a1 : Int) : evFun (mkCx Try.prog (laws_szSolidS.c k) (laws_szSolidS.g k) : Cx Int) Try.f13 ((laws_szSolidS.e (k + 1)).args.enc (a0, a1, ())) (laws_szSolidS.e (k + 1)).ret.dec = laws_szSolidS.fs k (laws_szSolid.f k) (laws_szSolidS.f k) a0 a1 := by kernel_rfl
theorem laws_szSolidS.ok1 (k : Nat) (hC : AllFun Try.prog (laws_szSolidS.c k)) : Fun Try.prog 13 (laws_szSolidS.e (k + 1)).G := fun_ok mixed (body := laws_szSolidS.bd) Try.func13 (by kernel_rfl) (by kernel_rfl) (by kernel_rfl) hC (loops_all 1 (by kernel_rfl) fun i hi => by obtain rfl : i = 0 := Nat.lt_one_iff.1 hi; exact ⟨laws_szSolidS.e5 k, by kernel_rfl, laws_szSolidS.to5 k hC⟩) (laws_szSolidS.e (k + 1)) (fun a => Nat.le_of_ble_eq_true (by kernel_rfl)) fun a b h => (laws_szSolidS.link k a.1 a.2.1).trans ((laws_szSolidS.fS k a.1 a.2.1).symm.trans h)
noncomputable def laws_szSolid.c (k : Nat) : List (Nat × CE) := [(13, .fn (laws_szSolidS.e k))]
noncomputable def laws_szSolid.bd : Code := match Try.f4.body with | some c => c | none => .skip
noncomputable def laws_szSolid.g (k : Nat) : List (Nat × LE) := []
theorem laws_szSolid.link (k : Nat) (a0 : Tree) (a1 : Int) : evFun (mkCx Try.prog (laws_szSolid.c k) (laws_szSolid.g k) : Cx Int) Try.f4 ((laws_szSolid.e (k + 1)).args.enc (a0, a1, ())) (laws_szSolid.e (k + 1)).ret.dec = laws_szSolid.fs k (laws_szSolid.f k) (laws_szSolidS.f k) a0 a1 := by kernel_rfl
theorem laws_szSolid.ok1 (k : Nat) (hC : AllFun Try.prog (laws_szSolid.c k)) : Fun Try.prog 4 (laws_szSolid.e (k + 1)).G := fun_ok mixed (body := laws_szSolid.bd) Try.func4 (by kernel_rfl) (by kernel_rfl) (by kernel_rfl) hC (loops_all 0 (by kernel_rfl) fun i hi => absurd hi (Nat.not_lt_zero i)) (laws_szSolid.e (k + 1)) (fun a => Nat.le_of_ble_eq_true (by kernel_rfl)) fun a b h => (laws_szSolid.link k a.1 a.2.1).trans ((laws_szSolid.fS k a.1 a.2.1).symm.trans h)
theorem laws_szSolidS.okk : ∀ k, Fun Try.prog 13 (laws_szSolidS.e k).G ∧ Fun Try.prog 4 (laws_szSolid.e k).G
  | 0 => ⟨fun_zero (by kernel_rfl) fun _ => rfl, fun_zero (by kernel_rfl) fun _ => rfl⟩
  | k + 1 => have h := laws_szSolidS.okk k; ⟨laws_szSolidS.ok1 k ⟨h.2, trivial⟩, laws_szSolid.ok1 k ⟨h.1, trivial⟩⟩
theorem laws_szSolidS.ok (k : Nat) : Fun Try.prog 13 (laws_szSolidS.e k).G := (laws_szSolidS.okk k).1
theorem laws_szSolid.ok (k : Nat) : Fun Try.prog 4 (laws_szSolid.e k).G := (laws_szSolidS.okk k).2

noncomputable def spec_l8Leaf.f (k : Nat) (a0 : Tree) : Option Bool :=
  some ((a0.kids.length : Int) == 0)
noncomputable def spec_l8Leaf.e (k : Nat) : FE := { α := Tree × Unit, β := Bool, args := (lCons aTree lNil), ret := (rOne aB), f := fun p => spec_l8Leaf.f k p.1 }
noncomputable def spec_l8Leaf.c (k : Nat) : List (Nat × CE) := []
noncomputable def spec_l8Leaf.bd : Code := match Try.f28.body with | some c => c | none => .skip
noncomputable def spec_l8Leaf.g (k : Nat) : List (Nat × LE) := []
theorem spec_l8Leaf.link (k : Nat) (a0 : Tree) : evFun (mkCx Try.prog (spec_l8Leaf.c k) (spec_l8Leaf.g k) : Cx Bool) Try.f28 ((spec_l8Leaf.e k).args.enc (a0, ())) (spec_l8Leaf.e k).ret.dec = spec_l8Leaf.f k a0 := by kernel_rfl
theorem spec_l8Leaf.ok1 (k : Nat) (hC : AllFun Try.prog (spec_l8Leaf.c k)) : Fun Try.prog 28 (spec_l8Leaf.e k).G := fun_ok mixed (body := spec_l8Leaf.bd) Try.func28 (by kernel_rfl) (by kernel_rfl) (by kernel_rfl) hC (loops_all 0 (by kernel_rfl) fun i hi => absurd hi (Nat.not_lt_zero i)) (spec_l8Leaf.e k) (fun a => Nat.le_of_ble_eq_true (by kernel_rfl)) fun a b h => (spec_l8Leaf.link k a.1).trans h
theorem spec_l8Leaf.ok (k : Nat) : Fun Try.prog 28 (spec_l8Leaf.e k).G := spec_l8Leaf.ok1 k trivial

noncomputable def spec_l8Count.H5 : Hd := ⟨[], [1, 2, 5, 6], [2], [], []⟩
@[reducible] def spec_l8Count.A5 : Type := ((Int × Unit × Int × Int × Unit) × (Tree × Unit))
noncomputable def spec_l8Count.Z5 : SC spec_l8Count.A5 := sC spec_l8Count.H5 (eCons 1 (tP (aI .i64)) (eCons 2 (tRef 2 0) (eCons 5 (tP (aI .i64)) (eCons 6 (tP (aI .i64)) eNil)))) (bCons 2 (xVr cTree) bNil)
@[reducible] def spec_l8Count.B5 : Type := ((Int × Unit) × (Unit))
noncomputable def spec_l8Count.X5 : XC spec_l8Count.B5 := xExit 0 (sC ⟨[], [5], [], [], []⟩ (eCons 5 (tP (aI .i64)) eNil) bNil)
noncomputable def spec_l8Count.s5 (k : Nat) (self26 : Tree → Int → Option Int) (J : Int → Int → Int → Tree → Option spec_l8Count.B5) (x1 : Int) (x5 : Int) (x6 : Int) (b2 : Tree) : Option spec_l8Count.B5 :=
  if (decide (x6 < (b2.kids.length : Int))) = true then (if 0 ≤ x6 then (if x6 < (b2.kids.length : Int) then ((self26  (T1 (rd b2.kids x6)) (W (x1 - x5))).bind fun t2 => J x1 (W (x5 + t2)) (W (x6 + 1)) (T1 b2)) else none) else none) else (some ((x5, ()), (())))
noncomputable def spec_l8Count.l5 (k : Nat) (self26 : Tree → Int → Option Int) : Nat → Int → Int → Int → Tree → Option spec_l8Count.B5
  | 0, _, _, _, _ => none
  | n + 1, x1, x5, x6, b2 => spec_l8Count.s5 k self26 (spec_l8Count.l5 k self26 n) x1 x5 x6 b2
noncomputable def spec_l8Count.fs (k : Nat) (self26 : Tree → Int → Option Int) (a0 : Tree) (a1 : Int) : Option Int :=
  (spec_l8Leaf.f k  (T1 a0)).bind fun t1 => if t1 = true then (some 0) else (if (decide (a1 ≤ 0)) = true then (some 0) else ((spec_l8Count.l5 k self26 k a1 1 0 (T1 a0)).bind fun x3 => some x3.1.1))
noncomputable def spec_l8Count.f : Nat → Tree → Int → Option Int
  | 0, _, _ => none
  | k + 1, a0, a1 => spec_l8Count.fs k (spec_l8Count.f k) a0 a1
theorem spec_l8Count.fS (k : Nat) (a0 : Tree) (a1 : Int) : spec_l8Count.f (k + 1) a0 a1 = spec_l8Count.fs k (spec_l8Count.f k) a0 a1 := by first | rfl | rw [spec_l8Count.f]
noncomputable def spec_l8Count.e (k : Nat) : FE := { α := Tree × Int × Unit, β := Int, args := (lCons aTree (lCons (aI .i64) lNil)), ret := (rOne (aI .i64)), f := fun p => spec_l8Count.f k p.1 p.2.1 }
noncomputable def spec_l8Count.c (k : Nat) : List (Nat × CE) := [(28, .fn (spec_l8Leaf.e k)), (26, .fn (spec_l8Count.e k))]
noncomputable def spec_l8Count.bd : Code := match Try.f26.body with | some c => c | none => .skip
noncomputable def spec_l8Count.e5 (k : Nat) : LE := { H := spec_l8Count.H5, α := spec_l8Count.A5, β := spec_l8Count.B5, st := spec_l8Count.Z5, xt := spec_l8Count.X5, f := fun p => spec_l8Count.l5 k (spec_l8Count.f k) k p.1.1 p.1.2.2.1 p.1.2.2.2.1 p.2.1 }
noncomputable def spec_l8Count.g (k : Nat) : List (Nat × LE) := [(5, spec_l8Count.e5 k)]
theorem spec_l8Count.t5 (k : Nat) (I : S2 → Option spec_l8Count.B5) (x1 : Int) (x5 : Int) (x6 : Int) (b2 : Tree) : stepOf (mkCx Try.prog (spec_l8Count.c k) (spec_l8Count.g k) : Cx spec_l8Count.B5) (loopAt spec_l8Count.bd 0) spec_l8Count.H5 spec_l8Count.X5.dec I (spec_l8Count.Z5.enc ((x1, (), x5, x6, ()), (b2, ()))) = spec_l8Count.s5 k (spec_l8Count.f k) (fun x1 x5 x6 b2 => I (spec_l8Count.Z5.enc ((x1, (), x5, x6, ()), (b2, ())))) x1 x5 x6 b2 := by kernel_rfl
theorem spec_l8Count.i5 (k : Nat) : ∀ (n : Nat) (x1 : Int) (x5 : Int) (x6 : Int) (b2 : Tree), iter (evCode (mkCx Try.prog (spec_l8Count.c k) (spec_l8Count.g k) : Cx spec_l8Count.B5) (loopAt spec_l8Count.bd 0)) spec_l8Count.H5 spec_l8Count.X5.dec n (spec_l8Count.Z5.enc ((x1, (), x5, x6, ()), (b2, ()))) = spec_l8Count.l5 k (spec_l8Count.f k) n x1 x5 x6 b2
  | 0, _, _, _, _ => rfl
  | n + 1, x1, x5, x6, b2 => ((iter_step _ _ _ _ n _).trans (spec_l8Count.t5 k _ x1 x5 x6 b2)).trans (congrArg (fun J => spec_l8Count.s5 k (spec_l8Count.f k) J x1 x5 x6 b2) (funext fun x1 => funext fun x5 => funext fun x6 => funext fun b2 => spec_l8Count.i5 k n x1 x5 x6 b2))
theorem spec_l8Count.to5 (k : Nat) (hC : AllFun Try.prog (spec_l8Count.c k)) : LoopTo Try.prog 32 (spec_l8Count.e5 k) (loopAt spec_l8Count.bd 0) := loop_to mixed hC (by kernel_rfl) (loops_all 0 (by kernel_rfl) fun i hi => absurd hi (Nat.not_lt_zero i)) fun a b h => ⟨k, (spec_l8Count.i5 k k a.1.1 a.1.2.2.1 a.1.2.2.2.1 a.2.1).trans h⟩
theorem spec_l8Count.link (k : Nat) (a0 : Tree) (a1 : Int) : evFun (mkCx Try.prog (spec_l8Count.c k) (spec_l8Count.g k) : Cx Int) Try.f26 ((spec_l8Count.e (k + 1)).args.enc (a0, a1, ())) (spec_l8Count.e (k + 1)).ret.dec = spec_l8Count.fs k (spec_l8Count.f k) a0 a1 := by kernel_rfl
theorem spec_l8Count.ok1 (k : Nat) (hC : AllFun Try.prog (spec_l8Count.c k)) : Fun Try.prog 26 (spec_l8Count.e (k + 1)).G := fun_ok mixed (body := spec_l8Count.bd) Try.func26 (by kernel_rfl) (by kernel_rfl) (by kernel_rfl) hC (loops_all 1 (by kernel_rfl) fun i hi => by obtain rfl : i = 0 := Nat.lt_one_iff.1 hi; exact ⟨spec_l8Count.e5 k, by kernel_rfl, spec_l8Count.to5 k hC⟩) (spec_l8Count.e (k + 1)) (fun a => Nat.le_of_ble_eq_true (by kernel_rfl)) fun a b h => (spec_l8Count.link k a.1 a.2.1).trans ((spec_l8Count.fS k a.1 a.2.1).symm.trans h)
theorem spec_l8Count.ok : ∀ k, Fun Try.prog 26 (spec_l8Count.e k).G
  | 0 => fun_zero (by kernel_rfl) fun _ => rfl
  | k + 1 => spec_l8Count.ok1 k ⟨spec_l8Leaf.ok k, spec_l8Count.ok k, trivial⟩

noncomputable def spec_l8Path.f (k : Nat) (a0 : List S4) (a1 : S4) : Option (List S4) :=
  if lt47 (([] : List S4).length + a0.length) = true then (if lt47 ((([] : List S4) ++ a0).length + ([a1] : List S4).length) = true then (some ((([] : List S4) ++ a0) ++ ([a1] : List S4))) else none) else none
noncomputable def spec_l8Path.e (k : Nat) : FE := { α := (List S4) × S4 × Unit, β := List S4, args := (lCons (aSl .s4) (lCons aS4 lNil)), ret := (rOwn 30 .s4), f := fun p => spec_l8Path.f k p.1 p.2.1 }
noncomputable def spec_l8Path.c (k : Nat) : List (Nat × CE) := []
noncomputable def spec_l8Path.bd : Code := match Try.f29.body with | some c => c | none => .skip
noncomputable def spec_l8Path.g (k : Nat) : List (Nat × LE) := []
theorem spec_l8Path.link (k : Nat) (a0 : List S4) (a1 : S4) : evFun (mkCx Try.prog (spec_l8Path.c k) (spec_l8Path.g k) : Cx (List S4)) Try.f29 ((spec_l8Path.e k).args.enc (a0, a1, ())) (spec_l8Path.e k).ret.dec = spec_l8Path.f k a0 a1 := by kernel_rfl
theorem spec_l8Path.ok1 (k : Nat) (hC : AllFun Try.prog (spec_l8Path.c k)) : Fun Try.prog 29 (spec_l8Path.e k).G := fun_ok mixed (body := spec_l8Path.bd) Try.func29 (by kernel_rfl) (by kernel_rfl) (by kernel_rfl) hC (loops_all 0 (by kernel_rfl) fun i hi => absurd hi (Nat.not_lt_zero i)) (spec_l8Path.e k) (fun a => Nat.le_of_ble_eq_true (by kernel_rfl)) fun a b h => (spec_l8Path.link k a.1 a.2.1).trans h
theorem spec_l8Path.ok (k : Nat) : Fun Try.prog 29 (spec_l8Path.e k).G := spec_l8Path.ok1 k trivial

noncomputable def spec_l3Flip.f (k : Nat) (a0 : S4) : Option S4 :=
  some (⟨(W (0 - a0.a)), (W (0 - a0.b)), (W (0 - a0.c)), (W (0 - a0.d))⟩ : S4)
noncomputable def spec_l3Flip.e (k : Nat) : FE := { α := S4 × Unit, β := S4, args := (lCons aS4 lNil), ret := (rOne aS4), f := fun p => spec_l3Flip.f k p.1 }
noncomputable def spec_l3Flip.c (k : Nat) : List (Nat × CE) := []
noncomputable def spec_l3Flip.bd : Code := match Try.f30.body with | some c => c | none => .skip
noncomputable def spec_l3Flip.g (k : Nat) : List (Nat × LE) := []
theorem spec_l3Flip.link (k : Nat) (a0 : S4) : evFun (mkCx Try.prog (spec_l3Flip.c k) (spec_l3Flip.g k) : Cx S4) Try.f30 ((spec_l3Flip.e k).args.enc (a0, ())) (spec_l3Flip.e k).ret.dec = spec_l3Flip.f k a0 := by kernel_rfl
theorem spec_l3Flip.ok1 (k : Nat) (hC : AllFun Try.prog (spec_l3Flip.c k)) : Fun Try.prog 30 (spec_l3Flip.e k).G := fun_ok mixed (body := spec_l3Flip.bd) Try.func30 (by kernel_rfl) (by kernel_rfl) (by kernel_rfl) hC (loops_all 0 (by kernel_rfl) fun i hi => absurd hi (Nat.not_lt_zero i)) (spec_l3Flip.e k) (fun a => Nat.le_of_ble_eq_true (by kernel_rfl)) fun a b h => (spec_l3Flip.link k a.1).trans h
theorem spec_l3Flip.ok (k : Nat) : Fun Try.prog 30 (spec_l3Flip.e k).G := spec_l3Flip.ok1 k trivial

noncomputable def spec_l1In.f (k : Nat) (a0 : Int) (a1 : Int) (a2 : Int) : Option Bool :=
  if (decide (a0 ≥ a1)) = true then (some (decide (a0 ≤ a2))) else (some false)
noncomputable def spec_l1In.e (k : Nat) : FE := { α := Int × Int × Int × Unit, β := Bool, args := (lCons (aI .i64) (lCons (aI .i64) (lCons (aI .i64) lNil))), ret := (rOne aB), f := fun p => spec_l1In.f k p.1 p.2.1 p.2.2.1 }
noncomputable def spec_l1In.c (k : Nat) : List (Nat × CE) := []
noncomputable def spec_l1In.bd : Code := match Try.f50.body with | some c => c | none => .skip
noncomputable def spec_l1In.g (k : Nat) : List (Nat × LE) := []
theorem spec_l1In.link (k : Nat) (a0 : Int) (a1 : Int) (a2 : Int) : evFun (mkCx Try.prog (spec_l1In.c k) (spec_l1In.g k) : Cx Bool) Try.f50 ((spec_l1In.e k).args.enc (a0, a1, a2, ())) (spec_l1In.e k).ret.dec = spec_l1In.f k a0 a1 a2 := by kernel_rfl
theorem spec_l1In.ok1 (k : Nat) (hC : AllFun Try.prog (spec_l1In.c k)) : Fun Try.prog 50 (spec_l1In.e k).G := fun_ok mixed (body := spec_l1In.bd) Try.func50 (by kernel_rfl) (by kernel_rfl) (by kernel_rfl) hC (loops_all 0 (by kernel_rfl) fun i hi => absurd hi (Nat.not_lt_zero i)) (spec_l1In.e k) (fun a => Nat.le_of_ble_eq_true (by kernel_rfl)) fun a b h => (spec_l1In.link k a.1 a.2.1 a.2.2.1).trans h
theorem spec_l1In.ok (k : Nat) : Fun Try.prog 50 (spec_l1In.e k).G := spec_l1In.ok1 k trivial

noncomputable def spec_l3In.f (k : Nat) (a0 : S4) : Option Bool :=
  (spec_l1In.f k  a0.a (W (0 - 500)) 500).bind fun t1 => if t1 = true then ((spec_l1In.f k  a0.b (W (0 - 500)) 500).bind fun t2 => if t2 = true then ((spec_l1In.f k  a0.c (W (0 - 500)) 500).bind fun t3 => if t3 = true then ((spec_l1In.f k  a0.d (W (0 - 500)) 500).bind fun t4 => some t4) else (some false)) else (some false)) else (some false)
noncomputable def spec_l3In.e (k : Nat) : FE := { α := S4 × Unit, β := Bool, args := (lCons aS4 lNil), ret := (rOne aB), f := fun p => spec_l3In.f k p.1 }
noncomputable def spec_l3In.c (k : Nat) : List (Nat × CE) := [(50, .fn (spec_l1In.e k))]
noncomputable def spec_l3In.bd : Code := match Try.f40.body with | some c => c | none => .skip
noncomputable def spec_l3In.g (k : Nat) : List (Nat × LE) := []
theorem spec_l3In.link (k : Nat) (a0 : S4) : evFun (mkCx Try.prog (spec_l3In.c k) (spec_l3In.g k) : Cx Bool) Try.f40 ((spec_l3In.e k).args.enc (a0, ())) (spec_l3In.e k).ret.dec = spec_l3In.f k a0 := by kernel_rfl
theorem spec_l3In.ok1 (k : Nat) (hC : AllFun Try.prog (spec_l3In.c k)) : Fun Try.prog 40 (spec_l3In.e k).G := fun_ok mixed (body := spec_l3In.bd) Try.func40 (by kernel_rfl) (by kernel_rfl) (by kernel_rfl) hC (loops_all 0 (by kernel_rfl) fun i hi => absurd hi (Nat.not_lt_zero i)) (spec_l3In.e k) (fun a => Nat.le_of_ble_eq_true (by kernel_rfl)) fun a b h => (spec_l3In.link k a.1).trans h
theorem spec_l3In.ok (k : Nat) : Fun Try.prog 40 (spec_l3In.e k).G := spec_l3In.ok1 k ⟨spec_l1In.ok k, trivial⟩

noncomputable def spec_l3Abs.f (k : Nat) (a0 : Int) : Option Int :=
  if (decide (a0 < 0)) = true then (some (W (0 - a0))) else (some a0)
noncomputable def spec_l3Abs.e (k : Nat) : FE := { α := Int × Unit, β := Int, args := (lCons (aI .i64) lNil), ret := (rOne (aI .i64)), f := fun p => spec_l3Abs.f k p.1 }
noncomputable def spec_l3Abs.c (k : Nat) : List (Nat × CE) := []
noncomputable def spec_l3Abs.bd : Code := match Try.f51.body with | some c => c | none => .skip
noncomputable def spec_l3Abs.g (k : Nat) : List (Nat × LE) := []
theorem spec_l3Abs.link (k : Nat) (a0 : Int) : evFun (mkCx Try.prog (spec_l3Abs.c k) (spec_l3Abs.g k) : Cx Int) Try.f51 ((spec_l3Abs.e k).args.enc (a0, ())) (spec_l3Abs.e k).ret.dec = spec_l3Abs.f k a0 := by kernel_rfl
theorem spec_l3Abs.ok1 (k : Nat) (hC : AllFun Try.prog (spec_l3Abs.c k)) : Fun Try.prog 51 (spec_l3Abs.e k).G := fun_ok mixed (body := spec_l3Abs.bd) Try.func51 (by kernel_rfl) (by kernel_rfl) (by kernel_rfl) hC (loops_all 0 (by kernel_rfl) fun i hi => absurd hi (Nat.not_lt_zero i)) (spec_l3Abs.e k) (fun a => Nat.le_of_ble_eq_true (by kernel_rfl)) fun a b h => (spec_l3Abs.link k a.1).trans h
theorem spec_l3Abs.ok (k : Nat) : Fun Try.prog 51 (spec_l3Abs.e k).G := spec_l3Abs.ok1 k trivial

noncomputable def spec_l3Gcd.H3 : Hd := ⟨[], [0, 1], [], [], []⟩
@[reducible] def spec_l3Gcd.A3 : Type := ((Int × Int × Unit) × (Unit))
noncomputable def spec_l3Gcd.Z3 : SC spec_l3Gcd.A3 := sC spec_l3Gcd.H3 (eCons 0 (tP (aI .i64)) (eCons 1 (tP (aI .i64)) eNil)) bNil
@[reducible] def spec_l3Gcd.B3 : Type := ((Int × Unit) × (Unit))
noncomputable def spec_l3Gcd.X3 : XC spec_l3Gcd.B3 := xExit 0 (sC ⟨[], [0], [], [], []⟩ (eCons 0 (tP (aI .i64)) eNil) bNil)
noncomputable def spec_l3Gcd.s3 (k : Nat)  (J : Int → Int → Option spec_l3Gcd.B3) (x0 : Int) (x1 : Int) : Option spec_l3Gcd.B3 :=
  if (decide (x1 > 0)) = true then (if x1 = 0 then none else (J x1 (x0.tmod x1))) else (some ((x0, ()), (())))
noncomputable def spec_l3Gcd.l3 (k : Nat)  : Nat → Int → Int → Option spec_l3Gcd.B3
  | 0, _, _ => none
  | n + 1, x0, x1 => spec_l3Gcd.s3 k (spec_l3Gcd.l3 k n) x0 x1
noncomputable def spec_l3Gcd.f (k : Nat) (a0 : Int) (a1 : Int) : Option Int :=
  (spec_l3Abs.f k  a0).bind fun t1 => (spec_l3Abs.f k  a1).bind fun t2 => (spec_l3Gcd.l3 k k t1 t2).bind fun x3 => some x3.1.1
noncomputable def spec_l3Gcd.e (k : Nat) : FE := { α := Int × Int × Unit, β := Int, args := (lCons (aI .i64) (lCons (aI .i64) lNil)), ret := (rOne (aI .i64)), f := fun p => spec_l3Gcd.f k p.1 p.2.1 }
noncomputable def spec_l3Gcd.c (k : Nat) : List (Nat × CE) := [(51, .fn (spec_l3Abs.e k))]
noncomputable def spec_l3Gcd.bd : Code := match Try.f41.body with | some c => c | none => .skip
noncomputable def spec_l3Gcd.e3 (k : Nat) : LE := { H := spec_l3Gcd.H3, α := spec_l3Gcd.A3, β := spec_l3Gcd.B3, st := spec_l3Gcd.Z3, xt := spec_l3Gcd.X3, f := fun p => spec_l3Gcd.l3 k k p.1.1 p.1.2.1 }
noncomputable def spec_l3Gcd.g (k : Nat) : List (Nat × LE) := [(3, spec_l3Gcd.e3 k)]
theorem spec_l3Gcd.t3 (k : Nat) (I : S2 → Option spec_l3Gcd.B3) (x0 : Int) (x1 : Int) : stepOf (mkCx Try.prog (spec_l3Gcd.c k) (spec_l3Gcd.g k) : Cx spec_l3Gcd.B3) (loopAt spec_l3Gcd.bd 0) spec_l3Gcd.H3 spec_l3Gcd.X3.dec I (spec_l3Gcd.Z3.enc ((x0, x1, ()), (()))) = spec_l3Gcd.s3 k (fun x0 x1 => I (spec_l3Gcd.Z3.enc ((x0, x1, ()), (())))) x0 x1 := by kernel_rfl
theorem spec_l3Gcd.i3 (k : Nat) : ∀ (n : Nat) (x0 : Int) (x1 : Int), iter (evCode (mkCx Try.prog (spec_l3Gcd.c k) (spec_l3Gcd.g k) : Cx spec_l3Gcd.B3) (loopAt spec_l3Gcd.bd 0)) spec_l3Gcd.H3 spec_l3Gcd.X3.dec n (spec_l3Gcd.Z3.enc ((x0, x1, ()), (()))) = spec_l3Gcd.l3 k n x0 x1
  | 0, _, _ => rfl
  | n + 1, x0, x1 => ((iter_step _ _ _ _ n _).trans (spec_l3Gcd.t3 k _ x0 x1)).trans (congrArg (fun J => spec_l3Gcd.s3 k J x0 x1) (funext fun x0 => funext fun x1 => spec_l3Gcd.i3 k n x0 x1))
theorem spec_l3Gcd.to3 (k : Nat) (hC : AllFun Try.prog (spec_l3Gcd.c k)) : LoopTo Try.prog 18 (spec_l3Gcd.e3 k) (loopAt spec_l3Gcd.bd 0) := loop_to mixed hC (by kernel_rfl) (loops_all 0 (by kernel_rfl) fun i hi => absurd hi (Nat.not_lt_zero i)) fun a b h => ⟨k, (spec_l3Gcd.i3 k k a.1.1 a.1.2.1).trans h⟩
theorem spec_l3Gcd.link (k : Nat) (a0 : Int) (a1 : Int) : evFun (mkCx Try.prog (spec_l3Gcd.c k) (spec_l3Gcd.g k) : Cx Int) Try.f41 ((spec_l3Gcd.e k).args.enc (a0, a1, ())) (spec_l3Gcd.e k).ret.dec = spec_l3Gcd.f k a0 a1 := by kernel_rfl
theorem spec_l3Gcd.ok1 (k : Nat) (hC : AllFun Try.prog (spec_l3Gcd.c k)) : Fun Try.prog 41 (spec_l3Gcd.e k).G := fun_ok mixed (body := spec_l3Gcd.bd) Try.func41 (by kernel_rfl) (by kernel_rfl) (by kernel_rfl) hC (loops_all 1 (by kernel_rfl) fun i hi => by obtain rfl : i = 0 := Nat.lt_one_iff.1 hi; exact ⟨spec_l3Gcd.e3 k, by kernel_rfl, spec_l3Gcd.to3 k hC⟩) (spec_l3Gcd.e k) (fun a => Nat.le_of_ble_eq_true (by kernel_rfl)) fun a b h => (spec_l3Gcd.link k a.1 a.2.1).trans h
theorem spec_l3Gcd.ok (k : Nat) : Fun Try.prog 41 (spec_l3Gcd.e k).G := spec_l3Gcd.ok1 k ⟨spec_l3Abs.ok k, trivial⟩

noncomputable def spec_PlaneOk.f (k : Nat) (a0 : S4) : Option Bool :=
  (spec_l3In.f k  a0).bind fun t1 => if t1 = true then (if (a0.a != 0) = true then ((spec_l3Gcd.f k  a0.a a0.b).bind fun t2 => (spec_l3Gcd.f k  a0.c a0.d).bind fun t3 => (spec_l3Gcd.f k  t2 t3).bind fun t4 => some (t4 == 1)) else (if (a0.b != 0) = true then ((spec_l3Gcd.f k  a0.a a0.b).bind fun t5 => (spec_l3Gcd.f k  a0.c a0.d).bind fun t6 => (spec_l3Gcd.f k  t5 t6).bind fun t7 => some (t7 == 1)) else (if (a0.c != 0) = true then ((spec_l3Gcd.f k  a0.a a0.b).bind fun t8 => (spec_l3Gcd.f k  a0.c a0.d).bind fun t9 => (spec_l3Gcd.f k  t8 t9).bind fun t10 => some (t10 == 1)) else (some false)))) else (some false)
noncomputable def spec_PlaneOk.e (k : Nat) : FE := { α := S4 × Unit, β := Bool, args := (lCons aS4 lNil), ret := (rOne aB), f := fun p => spec_PlaneOk.f k p.1 }
noncomputable def spec_PlaneOk.c (k : Nat) : List (Nat × CE) := [(40, .fn (spec_l3In.e k)), (41, .fn (spec_l3Gcd.e k))]
noncomputable def spec_PlaneOk.bd : Code := match Try.f36.body with | some c => c | none => .skip
noncomputable def spec_PlaneOk.g (k : Nat) : List (Nat × LE) := []
theorem spec_PlaneOk.link (k : Nat) (a0 : S4) : evFun (mkCx Try.prog (spec_PlaneOk.c k) (spec_PlaneOk.g k) : Cx Bool) Try.f36 ((spec_PlaneOk.e k).args.enc (a0, ())) (spec_PlaneOk.e k).ret.dec = spec_PlaneOk.f k a0 := by kernel_rfl
theorem spec_PlaneOk.ok1 (k : Nat) (hC : AllFun Try.prog (spec_PlaneOk.c k)) : Fun Try.prog 36 (spec_PlaneOk.e k).G := fun_ok mixed (body := spec_PlaneOk.bd) Try.func36 (by kernel_rfl) (by kernel_rfl) (by kernel_rfl) hC (loops_all 0 (by kernel_rfl) fun i hi => absurd hi (Nat.not_lt_zero i)) (spec_PlaneOk.e k) (fun a => Nat.le_of_ble_eq_true (by kernel_rfl)) fun a b h => (spec_PlaneOk.link k a.1).trans h
theorem spec_PlaneOk.ok (k : Nat) : Fun Try.prog 36 (spec_PlaneOk.e k).G := spec_PlaneOk.ok1 k ⟨spec_l3In.ok k, spec_l3Gcd.ok k, trivial⟩

noncomputable def spec_l4Cross.f (k : Nat) (a0 : S4) (a1 : S4) : Option S3 :=
  some (⟨(W ((W (a0.b * a1.c)) - (W (a0.c * a1.b)))), (W ((W (a0.c * a1.a)) - (W (a0.a * a1.c)))), (W ((W (a0.a * a1.b)) - (W (a0.b * a1.a))))⟩ : S3)
noncomputable def spec_l4Cross.e (k : Nat) : FE := { α := S4 × S4 × Unit, β := S3, args := (lCons aS4 (lCons aS4 lNil)), ret := (rOne aS3), f := fun p => spec_l4Cross.f k p.1 p.2.1 }
noncomputable def spec_l4Cross.c (k : Nat) : List (Nat × CE) := []
noncomputable def spec_l4Cross.bd : Code := match Try.f54.body with | some c => c | none => .skip
noncomputable def spec_l4Cross.g (k : Nat) : List (Nat × LE) := []
theorem spec_l4Cross.link (k : Nat) (a0 : S4) (a1 : S4) : evFun (mkCx Try.prog (spec_l4Cross.c k) (spec_l4Cross.g k) : Cx S3) Try.f54 ((spec_l4Cross.e k).args.enc (a0, a1, ())) (spec_l4Cross.e k).ret.dec = spec_l4Cross.f k a0 a1 := by kernel_rfl
theorem spec_l4Cross.ok1 (k : Nat) (hC : AllFun Try.prog (spec_l4Cross.c k)) : Fun Try.prog 54 (spec_l4Cross.e k).G := fun_ok mixed (body := spec_l4Cross.bd) Try.func54 (by kernel_rfl) (by kernel_rfl) (by kernel_rfl) hC (loops_all 0 (by kernel_rfl) fun i hi => absurd hi (Nat.not_lt_zero i)) (spec_l4Cross.e k) (fun a => Nat.le_of_ble_eq_true (by kernel_rfl)) fun a b h => (spec_l4Cross.link k a.1 a.2.1).trans h
theorem spec_l4Cross.ok (k : Nat) : Fun Try.prog 54 (spec_l4Cross.e k).G := spec_l4Cross.ok1 k trivial

noncomputable def spec_l3Sign.f (k : Nat) (a0 : Int) : Option Int :=
  if (decide (a0 > 0)) = true then (some 1) else (if (decide (a0 < 0)) = true then (some (-1)) else (some 0))
noncomputable def spec_l3Sign.e (k : Nat) : FE := { α := Int × Unit, β := Int, args := (lCons (aI .i64) lNil), ret := (rOne (aI .i64)), f := fun p => spec_l3Sign.f k p.1 }
noncomputable def spec_l3Sign.c (k : Nat) : List (Nat × CE) := []
noncomputable def spec_l3Sign.bd : Code := match Try.f64.body with | some c => c | none => .skip
noncomputable def spec_l3Sign.g (k : Nat) : List (Nat × LE) := []
theorem spec_l3Sign.link (k : Nat) (a0 : Int) : evFun (mkCx Try.prog (spec_l3Sign.c k) (spec_l3Sign.g k) : Cx Int) Try.f64 ((spec_l3Sign.e k).args.enc (a0, ())) (spec_l3Sign.e k).ret.dec = spec_l3Sign.f k a0 := by kernel_rfl
theorem spec_l3Sign.ok1 (k : Nat) (hC : AllFun Try.prog (spec_l3Sign.c k)) : Fun Try.prog 64 (spec_l3Sign.e k).G := fun_ok mixed (body := spec_l3Sign.bd) Try.func64 (by kernel_rfl) (by kernel_rfl) (by kernel_rfl) hC (loops_all 0 (by kernel_rfl) fun i hi => absurd hi (Nat.not_lt_zero i)) (spec_l3Sign.e k) (fun a => Nat.le_of_ble_eq_true (by kernel_rfl)) fun a b h => (spec_l3Sign.link k a.1).trans h
theorem spec_l3Sign.ok (k : Nat) : Fun Try.prog 64 (spec_l3Sign.e k).G := spec_l3Sign.ok1 k trivial

noncomputable def spec_l4Parallel.f (k : Nat) (a0 : S4) (a1 : S4) : Option Int :=
  (spec_l4Cross.f k  a0 a1).bind fun t1 => if (!((t1.x == 0) && ((t1.y == 0) && (t1.z == 0)))) = true then (some 0) else ((spec_l3Sign.f k  (W ((W ((W (a0.a * a1.a)) + (W (a0.b * a1.b)))) + (W (a0.c * a1.c))))).bind fun t2 => some t2)
noncomputable def spec_l4Parallel.e (k : Nat) : FE := { α := S4 × S4 × Unit, β := Int, args := (lCons aS4 (lCons aS4 lNil)), ret := (rOne (aI .i64)), f := fun p => spec_l4Parallel.f k p.1 p.2.1 }
noncomputable def spec_l4Parallel.c (k : Nat) : List (Nat × CE) := [(54, .fn (spec_l4Cross.e k)), (64, .fn (spec_l3Sign.e k))]
noncomputable def spec_l4Parallel.bd : Code := match Try.f52.body with | some c => c | none => .skip
noncomputable def spec_l4Parallel.g (k : Nat) : List (Nat × LE) := []
theorem spec_l4Parallel.link (k : Nat) (a0 : S4) (a1 : S4) : evFun (mkCx Try.prog (spec_l4Parallel.c k) (spec_l4Parallel.g k) : Cx Int) Try.f52 ((spec_l4Parallel.e k).args.enc (a0, a1, ())) (spec_l4Parallel.e k).ret.dec = spec_l4Parallel.f k a0 a1 := by kernel_rfl
theorem spec_l4Parallel.ok1 (k : Nat) (hC : AllFun Try.prog (spec_l4Parallel.c k)) : Fun Try.prog 52 (spec_l4Parallel.e k).G := fun_ok mixed (body := spec_l4Parallel.bd) Try.func52 (by kernel_rfl) (by kernel_rfl) (by kernel_rfl) hC (loops_all 0 (by kernel_rfl) fun i hi => absurd hi (Nat.not_lt_zero i)) (spec_l4Parallel.e k) (fun a => Nat.le_of_ble_eq_true (by kernel_rfl)) fun a b h => (spec_l4Parallel.link k a.1 a.2.1).trans h
theorem spec_l4Parallel.ok (k : Nat) : Fun Try.prog 52 (spec_l4Parallel.e k).G := spec_l4Parallel.ok1 k ⟨spec_l4Cross.ok k, spec_l3Sign.ok k, trivial⟩

noncomputable def spec_l6Clash2.f (k : Nat) (a0 : S4) (a1 : S4) : Option Bool :=
  (spec_l4Parallel.f k  a0 a1).bind fun t1 => if (decide (t1 ≥ 0)) = true then (some false) else ((spec_l3Abs.f k  a1.a).bind fun t2 => (spec_l3Abs.f k  a1.b).bind fun t3 => (spec_l3Abs.f k  a1.c).bind fun t4 => (spec_l3Abs.f k  a0.a).bind fun t5 => (spec_l3Abs.f k  a0.b).bind fun t6 => (spec_l3Abs.f k  a0.c).bind fun t7 => some (decide ((W ((W ((W ((W (t2 + t3)) + t4)) * a0.d)) + (W ((W ((W (t5 + t6)) + t7)) * a1.d)))) ≤ 0)))
noncomputable def spec_l6Clash2.e (k : Nat) : FE := { α := S4 × S4 × Unit, β := Bool, args := (lCons aS4 (lCons aS4 lNil)), ret := (rOne aB), f := fun p => spec_l6Clash2.f k p.1 p.2.1 }
noncomputable def spec_l6Clash2.c (k : Nat) : List (Nat × CE) := [(52, .fn (spec_l4Parallel.e k)), (51, .fn (spec_l3Abs.e k))]
noncomputable def spec_l6Clash2.bd : Code := match Try.f42.body with | some c => c | none => .skip
noncomputable def spec_l6Clash2.g (k : Nat) : List (Nat × LE) := []
theorem spec_l6Clash2.link (k : Nat) (a0 : S4) (a1 : S4) : evFun (mkCx Try.prog (spec_l6Clash2.c k) (spec_l6Clash2.g k) : Cx Bool) Try.f42 ((spec_l6Clash2.e k).args.enc (a0, a1, ())) (spec_l6Clash2.e k).ret.dec = spec_l6Clash2.f k a0 a1 := by kernel_rfl
theorem spec_l6Clash2.ok1 (k : Nat) (hC : AllFun Try.prog (spec_l6Clash2.c k)) : Fun Try.prog 42 (spec_l6Clash2.e k).G := fun_ok mixed (body := spec_l6Clash2.bd) Try.func42 (by kernel_rfl) (by kernel_rfl) (by kernel_rfl) hC (loops_all 0 (by kernel_rfl) fun i hi => absurd hi (Nat.not_lt_zero i)) (spec_l6Clash2.e k) (fun a => Nat.le_of_ble_eq_true (by kernel_rfl)) fun a b h => (spec_l6Clash2.link k a.1 a.2.1).trans h
theorem spec_l6Clash2.ok (k : Nat) : Fun Try.prog 42 (spec_l6Clash2.e k).G := spec_l6Clash2.ok1 k ⟨spec_l4Parallel.ok k, spec_l3Abs.ok k, trivial⟩

noncomputable def spec_l4Det3.f (k : Nat) (a0 : S4) (a1 : S4) (a2 : S4) : Option Int :=
  (spec_l4Cross.f k  a1 a2).bind fun t1 => some (W ((W ((W (a0.a * t1.x)) + (W (a0.b * t1.y)))) + (W (a0.c * t1.z))))
noncomputable def spec_l4Det3.e (k : Nat) : FE := { α := S4 × S4 × S4 × Unit, β := Int, args := (lCons aS4 (lCons aS4 (lCons aS4 lNil))), ret := (rOne (aI .i64)), f := fun p => spec_l4Det3.f k p.1 p.2.1 p.2.2.1 }
noncomputable def spec_l4Det3.c (k : Nat) : List (Nat × CE) := [(54, .fn (spec_l4Cross.e k))]
noncomputable def spec_l4Det3.bd : Code := match Try.f53.body with | some c => c | none => .skip
noncomputable def spec_l4Det3.g (k : Nat) : List (Nat × LE) := []
theorem spec_l4Det3.link (k : Nat) (a0 : S4) (a1 : S4) (a2 : S4) : evFun (mkCx Try.prog (spec_l4Det3.c k) (spec_l4Det3.g k) : Cx Int) Try.f53 ((spec_l4Det3.e k).args.enc (a0, a1, a2, ())) (spec_l4Det3.e k).ret.dec = spec_l4Det3.f k a0 a1 a2 := by kernel_rfl
theorem spec_l4Det3.ok1 (k : Nat) (hC : AllFun Try.prog (spec_l4Det3.c k)) : Fun Try.prog 53 (spec_l4Det3.e k).G := fun_ok mixed (body := spec_l4Det3.bd) Try.func53 (by kernel_rfl) (by kernel_rfl) (by kernel_rfl) hC (loops_all 0 (by kernel_rfl) fun i hi => absurd hi (Nat.not_lt_zero i)) (spec_l4Det3.e k) (fun a => Nat.le_of_ble_eq_true (by kernel_rfl)) fun a b h => (spec_l4Det3.link k a.1 a.2.1 a.2.2.1).trans h
theorem spec_l4Det3.ok (k : Nat) : Fun Try.prog 53 (spec_l4Det3.e k).G := spec_l4Det3.ok1 k ⟨spec_l4Cross.ok k, trivial⟩

noncomputable def spec_l6Sum.H5 : Hd := ⟨[], [0, 1, 5, 6, 7, 8], [], [], []⟩
@[reducible] def spec_l6Sum.A5 : Type := (((List Int) × (List Int) × Bool × Bool × Int × Int × Unit) × (Unit))
noncomputable def spec_l6Sum.Z5 : SC spec_l6Sum.A5 := sC spec_l6Sum.H5 (eCons 0 (tP (aSl (.i .i64))) (eCons 1 (tP (aSl (.i .i64))) (eCons 5 (tP aB) (eCons 6 (tP aB) (eCons 7 (tP (aI .i64)) (eCons 8 (tP (aI .i64)) eNil)))))) bNil
@[reducible] def spec_l6Sum.B5 : Type := ((Bool × Bool × Int × Unit) × (Unit))
noncomputable def spec_l6Sum.X5 : XC spec_l6Sum.B5 := xExit 0 (sC ⟨[], [5, 6, 7], [], [], []⟩ (eCons 5 (tP aB) (eCons 6 (tP aB) (eCons 7 (tP (aI .i64)) eNil))) bNil)
noncomputable def spec_l6Sum.s5 (k : Nat)  (J : (List Int) → (List Int) → Bool → Bool → Int → Int → Option spec_l6Sum.B5) (x0 : List Int) (x1 : List Int) (x5 : Bool) (x6 : Bool) (x7 : Int) (x8 : Int) : Option spec_l6Sum.B5 :=
  if (decide (x8 < (x0.length : Int))) = true then (if x5 = true then (if 0 ≤ x8 then (if x8 < (x0.length : Int) then (if x6 = true then (if 0 ≤ x8 then (if x8 < (x0.length : Int) then (if 0 ≤ x8 then (if x8 < (x0.length : Int) then ((spec_l3Abs.f k  (rd x0 x8)).bind fun t1 => if 0 ≤ x8 then (if x8 < (x1.length : Int) then (J x0 x1 (decide ((rd x0 x8) > 0)) (decide ((rd x0 x8) < 0)) (W (x7 + (W (t1 * (rd x1 x8))))) (W (x8 + 1))) else none) else none) else none) else none) else none) else none) else (if 0 ≤ x8 then (if x8 < (x0.length : Int) then ((spec_l3Abs.f k  (rd x0 x8)).bind fun t2 => if 0 ≤ x8 then (if x8 < (x1.length : Int) then (J x0 x1 (decide ((rd x0 x8) > 0)) false (W (x7 + (W (t2 * (rd x1 x8))))) (W (x8 + 1))) else none) else none) else none) else none)) else none) else none) else (if x6 = true then (if 0 ≤ x8 then (if x8 < (x0.length : Int) then (if 0 ≤ x8 then (if x8 < (x0.length : Int) then ((spec_l3Abs.f k  (rd x0 x8)).bind fun t3 => if 0 ≤ x8 then (if x8 < (x1.length : Int) then (J x0 x1 false (decide ((rd x0 x8) < 0)) (W (x7 + (W (t3 * (rd x1 x8))))) (W (x8 + 1))) else none) else none) else none) else none) else none) else none) else (if 0 ≤ x8 then (if x8 < (x0.length : Int) then ((spec_l3Abs.f k  (rd x0 x8)).bind fun t4 => if 0 ≤ x8 then (if x8 < (x1.length : Int) then (J x0 x1 false false (W (x7 + (W (t4 * (rd x1 x8))))) (W (x8 + 1))) else none) else none) else none) else none))) else (some ((x5, x6, x7, ()), (())))
noncomputable def spec_l6Sum.l5 (k : Nat)  : Nat → (List Int) → (List Int) → Bool → Bool → Int → Int → Option spec_l6Sum.B5
  | 0, _, _, _, _, _, _ => none
  | n + 1, x0, x1, x5, x6, x7, x8 => spec_l6Sum.s5 k (spec_l6Sum.l5 k n) x0 x1 x5 x6 x7 x8
noncomputable def spec_l6Sum.f (k : Nat) (a0 : List Int) (a1 : List Int) : Option Bool :=
  (spec_l6Sum.l5 k k a0 a1 true true 0 0).bind fun x5 => if x5.1.1 = true then (some (decide (x5.1.2.2.1 ≤ 0))) else (if x5.1.2.1 = true then (some (decide (x5.1.2.2.1 ≤ 0))) else (some false))
noncomputable def spec_l6Sum.e (k : Nat) : FE := { α := (List Int) × (List Int) × Unit, β := Bool, args := (lCons (aSl (.i .i64)) (lCons (aSl (.i .i64)) lNil)), ret := (rOne aB), f := fun p => spec_l6Sum.f k p.1 p.2.1 }
noncomputable def spec_l6Sum.c (k : Nat) : List (Nat × CE) := [(51, .fn (spec_l3Abs.e k))]
noncomputable def spec_l6Sum.bd : Code := match Try.f55.body with | some c => c | none => .skip
noncomputable def spec_l6Sum.e5 (k : Nat) : LE := { H := spec_l6Sum.H5, α := spec_l6Sum.A5, β := spec_l6Sum.B5, st := spec_l6Sum.Z5, xt := spec_l6Sum.X5, f := fun p => spec_l6Sum.l5 k k p.1.1 p.1.2.1 p.1.2.2.1 p.1.2.2.2.1 p.1.2.2.2.2.1 p.1.2.2.2.2.2.1 }
noncomputable def spec_l6Sum.g (k : Nat) : List (Nat × LE) := [(5, spec_l6Sum.e5 k)]
theorem spec_l6Sum.t5 (k : Nat) (I : S2 → Option spec_l6Sum.B5) (x0 : List Int) (x1 : List Int) (x5 : Bool) (x6 : Bool) (x7 : Int) (x8 : Int) : stepOf (mkCx Try.prog (spec_l6Sum.c k) (spec_l6Sum.g k) : Cx spec_l6Sum.B5) (loopAt spec_l6Sum.bd 0) spec_l6Sum.H5 spec_l6Sum.X5.dec I (spec_l6Sum.Z5.enc ((x0, x1, x5, x6, x7, x8, ()), (()))) = spec_l6Sum.s5 k (fun x0 x1 x5 x6 x7 x8 => I (spec_l6Sum.Z5.enc ((x0, x1, x5, x6, x7, x8, ()), (())))) x0 x1 x5 x6 x7 x8 := by kernel_rfl
theorem spec_l6Sum.i5 (k : Nat) : ∀ (n : Nat) (x0 : List Int) (x1 : List Int) (x5 : Bool) (x6 : Bool) (x7 : Int) (x8 : Int), iter (evCode (mkCx Try.prog (spec_l6Sum.c k) (spec_l6Sum.g k) : Cx spec_l6Sum.B5) (loopAt spec_l6Sum.bd 0)) spec_l6Sum.H5 spec_l6Sum.X5.dec n (spec_l6Sum.Z5.enc ((x0, x1, x5, x6, x7, x8, ()), (()))) = spec_l6Sum.l5 k n x0 x1 x5 x6 x7 x8
  | 0, _, _, _, _, _, _ => rfl
  | n + 1, x0, x1, x5, x6, x7, x8 => ((iter_step _ _ _ _ n _).trans (spec_l6Sum.t5 k _ x0 x1 x5 x6 x7 x8)).trans (congrArg (fun J => spec_l6Sum.s5 k J x0 x1 x5 x6 x7 x8) (funext fun x0 => funext fun x1 => funext fun x5 => funext fun x6 => funext fun x7 => funext fun x8 => spec_l6Sum.i5 k n x0 x1 x5 x6 x7 x8))
theorem spec_l6Sum.to5 (k : Nat) (hC : AllFun Try.prog (spec_l6Sum.c k)) : LoopTo Try.prog 51 (spec_l6Sum.e5 k) (loopAt spec_l6Sum.bd 0) := loop_to mixed hC (by kernel_rfl) (loops_all 0 (by kernel_rfl) fun i hi => absurd hi (Nat.not_lt_zero i)) fun a b h => ⟨k, (spec_l6Sum.i5 k k a.1.1 a.1.2.1 a.1.2.2.1 a.1.2.2.2.1 a.1.2.2.2.2.1 a.1.2.2.2.2.2.1).trans h⟩
theorem spec_l6Sum.link (k : Nat) (a0 : List Int) (a1 : List Int) : evFun (mkCx Try.prog (spec_l6Sum.c k) (spec_l6Sum.g k) : Cx Bool) Try.f55 ((spec_l6Sum.e k).args.enc (a0, a1, ())) (spec_l6Sum.e k).ret.dec = spec_l6Sum.f k a0 a1 := by kernel_rfl
theorem spec_l6Sum.ok1 (k : Nat) (hC : AllFun Try.prog (spec_l6Sum.c k)) : Fun Try.prog 55 (spec_l6Sum.e k).G := fun_ok mixed (body := spec_l6Sum.bd) Try.func55 (by kernel_rfl) (by kernel_rfl) (by kernel_rfl) hC (loops_all 1 (by kernel_rfl) fun i hi => by obtain rfl : i = 0 := Nat.lt_one_iff.1 hi; exact ⟨spec_l6Sum.e5 k, by kernel_rfl, spec_l6Sum.to5 k hC⟩) (spec_l6Sum.e k) (fun a => Nat.le_of_ble_eq_true (by kernel_rfl)) fun a b h => (spec_l6Sum.link k a.1 a.2.1).trans h
theorem spec_l6Sum.ok (k : Nat) : Fun Try.prog 55 (spec_l6Sum.e k).G := spec_l6Sum.ok1 k ⟨spec_l3Abs.ok k, trivial⟩

noncomputable def spec_l6Clash3.H7 : Hd := ⟨[], [3, 4, 5, 7, 8, 9, 10], [3, 4, 5, 7, 8, 9], [], []⟩
@[reducible] def spec_l6Clash3.A7 : Type := ((Unit × Unit × Unit × Unit × Unit × Unit × Int × Unit) × (S4 × S4 × S4 × S3 × S3 × S3 × Unit))
noncomputable def spec_l6Clash3.Z7 : SC spec_l6Clash3.A7 := sC spec_l6Clash3.H7 (eCons 3 (tRef 3 0) (eCons 4 (tRef 4 0) (eCons 5 (tRef 5 0) (eCons 7 (tRef 7 0) (eCons 8 (tRef 8 0) (eCons 9 (tRef 9 0) (eCons 10 (tP (aI .i64)) eNil))))))) (bCons 3 (xVr cS4) (bCons 4 (xVr cS4) (bCons 5 (xVr cS4) (bCons 7 (xVr cS3) (bCons 8 (xVr cS3) (bCons 9 (xVr cS3) bNil))))))
@[reducible] def spec_l6Clash3.B7 : Type := ((Bool × Unit) × (Unit)) ⊕ ((Unit) × (Unit))
noncomputable def spec_l6Clash3.X7 : XC spec_l6Clash3.B7 := xOr (xRet (sC ⟨[], [6], [], [], []⟩ (eCons 6 (tP aB) eNil) bNil)) (xExit 0 (sC ⟨[], [], [], [], []⟩ eNil bNil))
noncomputable def spec_l6Clash3.s7 (k : Nat)  (J : Int → S4 → S4 → S4 → S3 → S3 → S3 → Option spec_l6Clash3.B7) (x10 : Int) (b3 : S4) (b4 : S4) (b5 : S4) (b7 : S3) (b8 : S3) (b9 : S3) : Option spec_l6Clash3.B7 :=
  if (decide (x10 < 3)) = true then (if 0 ≤ x10 then (if x10 < 3 then (if ((sel [b7.x, b7.y, b7.z] x10) != 0) = true then (if 0 ≤ x10 then (if x10 < 3 then (if 0 ≤ x10 then (if x10 < 3 then (if 0 ≤ x10 then (if x10 < 3 then ((spec_l6Sum.f k  ([(sel [b7.x, b7.y, b7.z] x10), (sel [b8.x, b8.y, b8.z] x10), (sel [b9.x, b9.y, b9.z] x10)] : List Int) ([b3.d, b4.d, b5.d] : List Int)).bind fun t5 => some (.inl ((t5, ()), (())))) else none) else none) else none) else none) else none) else none) else (if 0 ≤ x10 then (if x10 < 3 then (if ((sel [b8.x, b8.y, b8.z] x10) != 0) = true then (if 0 ≤ x10 then (if x10 < 3 then (if 0 ≤ x10 then (if x10 < 3 then (if 0 ≤ x10 then (if x10 < 3 then ((spec_l6Sum.f k  ([(sel [b7.x, b7.y, b7.z] x10), (sel [b8.x, b8.y, b8.z] x10), (sel [b9.x, b9.y, b9.z] x10)] : List Int) ([b3.d, b4.d, b5.d] : List Int)).bind fun t6 => some (.inl ((t6, ()), (())))) else none) else none) else none) else none) else none) else none) else (if 0 ≤ x10 then (if x10 < 3 then (if ((sel [b9.x, b9.y, b9.z] x10) != 0) = true then (if 0 ≤ x10 then (if x10 < 3 then (if 0 ≤ x10 then (if x10 < 3 then (if 0 ≤ x10 then (if x10 < 3 then ((spec_l6Sum.f k  ([(sel [b7.x, b7.y, b7.z] x10), (sel [b8.x, b8.y, b8.z] x10), (sel [b9.x, b9.y, b9.z] x10)] : List Int) ([b3.d, b4.d, b5.d] : List Int)).bind fun t7 => some (.inl ((t7, ()), (())))) else none) else none) else none) else none) else none) else none) else (J (W (x10 + 1)) b3 b4 b5 b7 b8 b9)) else none) else none)) else none) else none)) else none) else none) else (some (.inr ((()), (()))))
noncomputable def spec_l6Clash3.l7 (k : Nat)  : Nat → Int → S4 → S4 → S4 → S3 → S3 → S3 → Option spec_l6Clash3.B7
  | 0, _, _, _, _, _, _, _ => none
  | n + 1, x10, b3, b4, b5, b7, b8, b9 => spec_l6Clash3.s7 k (spec_l6Clash3.l7 k n) x10 b3 b4 b5 b7 b8 b9
noncomputable def spec_l6Clash3.f (k : Nat) (a0 : S4) (a1 : S4) (a2 : S4) : Option Bool :=
  (spec_l4Det3.f k  a0 a1 a2).bind fun t1 => if (t1 != 0) = true then (some false) else ((spec_l4Cross.f k  a1 a2).bind fun t2 => (spec_l4Cross.f k  a2 a0).bind fun t3 => (spec_l4Cross.f k  a0 a1).bind fun t4 => (spec_l6Clash3.l7 k k 0 a0 a1 a2 t2 t3 t4).bind fun | .inl r8 => (some r8.1.1) | .inr x9 => (some false))
noncomputable def spec_l6Clash3.e (k : Nat) : FE := { α := S4 × S4 × S4 × Unit, β := Bool, args := (lCons aS4 (lCons aS4 (lCons aS4 lNil))), ret := (rOne aB), f := fun p => spec_l6Clash3.f k p.1 p.2.1 p.2.2.1 }
noncomputable def spec_l6Clash3.c (k : Nat) : List (Nat × CE) := [(53, .fn (spec_l4Det3.e k)), (54, .fn (spec_l4Cross.e k)), (55, .fn (spec_l6Sum.e k))]
noncomputable def spec_l6Clash3.bd : Code := match Try.f43.body with | some c => c | none => .skip
noncomputable def spec_l6Clash3.e7 (k : Nat) : LE := { H := spec_l6Clash3.H7, α := spec_l6Clash3.A7, β := spec_l6Clash3.B7, st := spec_l6Clash3.Z7, xt := spec_l6Clash3.X7, f := fun p => spec_l6Clash3.l7 k k p.1.2.2.2.2.2.2.1 p.2.1 p.2.2.1 p.2.2.2.1 p.2.2.2.2.1 p.2.2.2.2.2.1 p.2.2.2.2.2.2.1 }
noncomputable def spec_l6Clash3.g (k : Nat) : List (Nat × LE) := [(7, spec_l6Clash3.e7 k)]
theorem spec_l6Clash3.t7 (k : Nat) (I : S2 → Option spec_l6Clash3.B7) (x10 : Int) (b3 : S4) (b4 : S4) (b5 : S4) (b7 : S3) (b8 : S3) (b9 : S3) : stepOf (mkCx Try.prog (spec_l6Clash3.c k) (spec_l6Clash3.g k) : Cx spec_l6Clash3.B7) (loopAt spec_l6Clash3.bd 0) spec_l6Clash3.H7 spec_l6Clash3.X7.dec I (spec_l6Clash3.Z7.enc (((), (), (), (), (), (), x10, ()), (b3, b4, b5, b7, b8, b9, ()))) = spec_l6Clash3.s7 k (fun x10 b3 b4 b5 b7 b8 b9 => I (spec_l6Clash3.Z7.enc (((), (), (), (), (), (), x10, ()), (b3, b4, b5, b7, b8, b9, ())))) x10 b3 b4 b5 b7 b8 b9 := by kernel_rfl
theorem spec_l6Clash3.i7 (k : Nat) : ∀ (n : Nat) (x10 : Int) (b3 : S4) (b4 : S4) (b5 : S4) (b7 : S3) (b8 : S3) (b9 : S3), iter (evCode (mkCx Try.prog (spec_l6Clash3.c k) (spec_l6Clash3.g k) : Cx spec_l6Clash3.B7) (loopAt spec_l6Clash3.bd 0)) spec_l6Clash3.H7 spec_l6Clash3.X7.dec n (spec_l6Clash3.Z7.enc (((), (), (), (), (), (), x10, ()), (b3, b4, b5, b7, b8, b9, ()))) = spec_l6Clash3.l7 k n x10 b3 b4 b5 b7 b8 b9
  | 0, _, _, _, _, _, _, _ => rfl
  | n + 1, x10, b3, b4, b5, b7, b8, b9 => ((iter_step _ _ _ _ n _).trans (spec_l6Clash3.t7 k _ x10 b3 b4 b5 b7 b8 b9)).trans (congrArg (fun J => spec_l6Clash3.s7 k J x10 b3 b4 b5 b7 b8 b9) (funext fun x10 => funext fun b3 => funext fun b4 => funext fun b5 => funext fun b7 => funext fun b8 => funext fun b9 => spec_l6Clash3.i7 k n x10 b3 b4 b5 b7 b8 b9))
theorem spec_l6Clash3.to7 (k : Nat) (hC : AllFun Try.prog (spec_l6Clash3.c k)) : LoopTo Try.prog 63 (spec_l6Clash3.e7 k) (loopAt spec_l6Clash3.bd 0) := loop_to mixed hC (by kernel_rfl) (loops_all 0 (by kernel_rfl) fun i hi => absurd hi (Nat.not_lt_zero i)) fun a b h => ⟨k, (spec_l6Clash3.i7 k k a.1.2.2.2.2.2.2.1 a.2.1 a.2.2.1 a.2.2.2.1 a.2.2.2.2.1 a.2.2.2.2.2.1 a.2.2.2.2.2.2.1).trans h⟩
theorem spec_l6Clash3.link (k : Nat) (a0 : S4) (a1 : S4) (a2 : S4) : evFun (mkCx Try.prog (spec_l6Clash3.c k) (spec_l6Clash3.g k) : Cx Bool) Try.f43 ((spec_l6Clash3.e k).args.enc (a0, a1, a2, ())) (spec_l6Clash3.e k).ret.dec = spec_l6Clash3.f k a0 a1 a2 := by kernel_rfl
theorem spec_l6Clash3.ok1 (k : Nat) (hC : AllFun Try.prog (spec_l6Clash3.c k)) : Fun Try.prog 43 (spec_l6Clash3.e k).G := fun_ok mixed (body := spec_l6Clash3.bd) Try.func43 (by kernel_rfl) (by kernel_rfl) (by kernel_rfl) hC (loops_all 1 (by kernel_rfl) fun i hi => by obtain rfl : i = 0 := Nat.lt_one_iff.1 hi; exact ⟨spec_l6Clash3.e7 k, by kernel_rfl, spec_l6Clash3.to7 k hC⟩) (spec_l6Clash3.e k) (fun a => Nat.le_of_ble_eq_true (by kernel_rfl)) fun a b h => (spec_l6Clash3.link k a.1 a.2.1 a.2.2.1).trans h
theorem spec_l6Clash3.ok (k : Nat) : Fun Try.prog 43 (spec_l6Clash3.e k).G := spec_l6Clash3.ok1 k ⟨spec_l4Det3.ok k, spec_l4Cross.ok k, spec_l6Sum.ok k, trivial⟩

noncomputable def spec_l6Clash4.f (k : Nat) (a0 : S4) (a1 : S4) (a2 : S4) (a3 : S4) : Option Bool :=
  (spec_l4Det3.f k  a1 a2 a3).bind fun t1 => (spec_l4Det3.f k  a0 a2 a3).bind fun t2 => (spec_l4Det3.f k  a0 a1 a3).bind fun t3 => (spec_l4Det3.f k  a0 a1 a2).bind fun t4 => (spec_l6Sum.f k  ([t1, (W (0 - t2)), t3, (W (0 - t4))] : List Int) ([a0.d, a1.d, a2.d, a3.d] : List Int)).bind fun t5 => some t5
noncomputable def spec_l6Clash4.e (k : Nat) : FE := { α := S4 × S4 × S4 × S4 × Unit, β := Bool, args := (lCons aS4 (lCons aS4 (lCons aS4 (lCons aS4 lNil)))), ret := (rOne aB), f := fun p => spec_l6Clash4.f k p.1 p.2.1 p.2.2.1 p.2.2.2.1 }
noncomputable def spec_l6Clash4.c (k : Nat) : List (Nat × CE) := [(53, .fn (spec_l4Det3.e k)), (55, .fn (spec_l6Sum.e k))]
noncomputable def spec_l6Clash4.bd : Code := match Try.f44.body with | some c => c | none => .skip
noncomputable def spec_l6Clash4.g (k : Nat) : List (Nat × LE) := []
theorem spec_l6Clash4.link (k : Nat) (a0 : S4) (a1 : S4) (a2 : S4) (a3 : S4) : evFun (mkCx Try.prog (spec_l6Clash4.c k) (spec_l6Clash4.g k) : Cx Bool) Try.f44 ((spec_l6Clash4.e k).args.enc (a0, a1, a2, a3, ())) (spec_l6Clash4.e k).ret.dec = spec_l6Clash4.f k a0 a1 a2 a3 := by kernel_rfl
theorem spec_l6Clash4.ok1 (k : Nat) (hC : AllFun Try.prog (spec_l6Clash4.c k)) : Fun Try.prog 44 (spec_l6Clash4.e k).G := fun_ok mixed (body := spec_l6Clash4.bd) Try.func44 (by kernel_rfl) (by kernel_rfl) (by kernel_rfl) hC (loops_all 0 (by kernel_rfl) fun i hi => absurd hi (Nat.not_lt_zero i)) (spec_l6Clash4.e k) (fun a => Nat.le_of_ble_eq_true (by kernel_rfl)) fun a b h => (spec_l6Clash4.link k a.1 a.2.1 a.2.2.1 a.2.2.2.1).trans h
theorem spec_l6Clash4.ok (k : Nat) : Fun Try.prog 44 (spec_l6Clash4.e k).G := spec_l6Clash4.ok1 k ⟨spec_l4Det3.ok k, spec_l6Sum.ok k, trivial⟩

end Go.Proofs.Ytalkkenkeilmpaa.G
