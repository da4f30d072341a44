/- What the printed functions use. -/
import Derived.Test.YtalkkenkeilmpaaGreatEv15
import Derived.Test.YtalkkenkeilmpaaGreatProg
import Derived.Test.YtalkkenkeilmpaaGreatChecked
namespace Go.Proofs.YtalkkenkeilmpaaGreat.Ev
open Go Go.RowKit Go.Proofs
set_option linter.unusedVariables false

theorem mixed : Tryz.prog.follows .mixedOrders = true := by kernel_rfl
def W (x : Int) : Int := IntKind.wrap .i64 x
def rd {α : Type} [Inhabited α] (l : List α) (i : Int) : α := l.getD i.toNat default
/-- shifts and bits. -/
def shrW (x : Int) (n : Nat) : Int := x.fdiv (2 ^ n)
def andW (x y : Int) : Int := IntKind.wrap .i64 ((BitVec.ofInt (IntKind.bits .i64) x &&& BitVec.ofInt (IntKind.bits .i64) y).toNat : Int)
def xorW (x y : Int) : Int := IntKind.wrap .i64 ((BitVec.ofInt (IntKind.bits .i64) x ^^^ BitVec.ofInt (IntKind.bits .i64) y).toNat : Int)
def U (x : Int) : Int := IntKind.wrap .u64 x
/-- a tree, put together of its parts. -/
def T1 (x : Tree) : Tree := .mk x.inn x.p x.kids
theorem T1_eq (x : Tree) : T1 x = x := by cases x; rfl
/-- one round, what follows told by 'I'. -/
def stepOf {ρ : Type} (cx : Cx ρ) (c : Code) (H : Hd) (K : Exit → S2 → Option ρ) (I : S2 → Option ρ) (st : S2) : Option ρ := evCode cx c st fun e st' => match e with
  | .normal => (match keepOk (prep H st') H.lv H.lb with
    | true => I (keepS (prep H st') H.lv H.lb)
    | false => none)
  | .exit j => K (.exit j) st'
  | .goto l => K (.goto l) st'
  | .ret => K .ret st'
  | .panic c => K (.panic c) st'
  | .outgrown => K .outgrown st'
theorem iter_step {ρ : Type} (cx : Cx ρ) (c : Code) (H : Hd) (K : Exit → S2 → Option ρ) (n : Nat) (st : S2) : iter (evCode cx c) H K (n + 1) st = stepOf cx c H K (iter (evCode cx c) H K n) st := by
  simp only [iter, stepOf]
  congr 1
  funext e st'
  cases e <;> rfl
theorem fun_zero {P : Program} {n : Nat} {F : FE} (hcan : callable P n = true) (h : ∀ a, F.f a = none) : Fun P n F.G := by
  refine ⟨hcan, fun xs rt hG => ?_⟩
  unfold FE.G at hG
  split at hG
  · rw [h] at hG; cases hG
  · cases hG
theorem funS_zero {P : Program} {n : Nat} {F : FS} (hcan : callable P n = true) (h : ∀ s a, F.f s a = none) : FunS P n F.sk F.H := by
  refine ⟨hcan, fun bx xs rt bx' hG => ?_⟩
  unfold FS.H at hG
  split at hG
  · rw [h] at hG; cases hG
  · cases hG
end Go.Proofs.YtalkkenkeilmpaaGreat.Ev
