/- The library's functions on rows of planes and spots: their promises, made by hand. -/
import Derived.Test.YtlkcpldohlemcaaSg
import Derived.Test.YtlkcpldohlemcaaG0
import Derived.Shelf.SlGeneric
import Derived.Laws.StructEq
namespace Go.Proofs.Ytlkcpldohlemcaa.G
open Go Go.RowKit Go.Proofs Go.Proofs.Ytlkcpldohlemcaa.Ev Go.Shelf
set_option linter.unusedVariables false
set_option linter.unusedSimpArgs false
set_option maxRecDepth 100000

def cI (x y : Int) : Int := if x < y then -1 else if x > y then 1 else 0
theorem cI_lt {x y : Int} : cI x y < 0 ↔ x < y := by unfold cI; split <;> (try split) <;> omega
theorem cI_0 {x y : Int} : cI x y = 0 ↔ x = y := by unfold cI; split <;> (try split) <;> omega
theorem cmp_f (k : Nat) (x y : Int) : cmp_Compare_int.f k x y = some (cI x y) := by
  unfold cmp_Compare_int.f cmp_isNaN_int.f cI
  simp only [Option.bind_some, bne_self_eq_false, Bool.false_eq_true, if_false, decide_eq_true_eq]
  split
  · rfl
  · split <;> rfl
def cor : List Int → Int
  | [] => 0
  | x :: r => if x ≠ 0 then x else cor r
theorem or_l3 (k : Nat) (l : List Int) (hl : l.length ≤ 100) : ∀ (d i n : Nat), l.length - i = d → i ≤ l.length → d < n → (cmp_Or_int.l3 k n 0 l (l.length : Int) (i : Int)).bind (fun | .inl r1 => (some r1.1.1) | .inr x2 => (some x2.1.1)) = some (cor (l.drop i)) := by
  intro d
  induction d with
  | zero =>
    intro i n hd hi hn
    obtain ⟨m, rfl⟩ : ∃ m, n = m + 1 := ⟨n - 1, by omega⟩
    rw [List.drop_eq_nil_of_le (by omega)]
    simp only [cmp_Or_int.l3, cmp_Or_int.s3, decide_eq_true_eq, if_neg (show ¬ (i : Int) < (l.length : Int) by omega)]
    rfl
  | succ d ih =>
    intro i n hd hi hn
    obtain ⟨m, rfl⟩ : ∃ m, n = m + 1 := ⟨n - 1, by omega⟩
    have hi' : i < l.length := by omega
    have w : W ((i : Int) + 1) = ((i + 1 : Nat) : Int) := by
      unfold W; rw [IntKind.wrap_i64]; omega
    have e : rd l (i : Int) = l[i] := by simp [rd, List.getD_eq_getElem?_getD, hi']
    rw [← List.getElem_cons_drop hi']
    simp only [cmp_Or_int.l3, cmp_Or_int.s3, decide_eq_true_eq, if_pos (show (i : Int) < (l.length : Int) by omega), if_pos (Int.natCast_nonneg _), e, w, cor]
    by_cases c : l[i] = 0
    · rw [if_neg (by simp [c]), if_neg (by simp [c])]
      exact ih (i + 1) m (by omega) (by omega) (by omega)
    · rw [if_pos (by simpa using c), if_pos c]; rfl
theorem or_f (l : List Int) (hl : l.length ≤ 9) : cmp_Or_int.f 10 l = some (cor l) := by
  have := or_l3 10 l (by omega) l.length 0 10 (by omega) (by omega) (by omega)
  rw [List.drop_zero] at this
  exact this
theorem cmpOk_of {g : Nat} {ok : S4 → Bool} {cf : S4 → S4 → Int} {F : FE} (hF : Fun Try.prog g F.G) (hv : ∀ x y, F.G [aS4.enc x, aS4.enc y] = some (.one (.v (.int .i64 (cf x y))))) (irr : ∀ x, ok x = true → ¬ cf x x < 0) (tr : ∀ x y z, ok x = true → ok y = true → ok z = true → cf x y < 0 → cf y z < 0 → cf x z < 0)
    (ntr : ∀ x y z, ok x = true → ok y = true → ok z = true → ¬ cf x y < 0 → ¬ cf y z < 0 → ¬ cf x z < 0) (tot : ∀ x y, ok x = true → ok y = true → ¬ cf x y < 0 → ¬ cf y x < 0 → x = y) : CmpOk Try.prog g ok cf where
  can := hF.can
  runs := fun x y _ _ w => by
    refine (hF.runs _ _ (hv x y) #[.agg (enc4 x).toArray, .agg (enc4 y).toArray] w (fun _ => False) (fun _ h => h.elim) rfl (fun i v y' h1 h2 => ?_)).mono fun e w' ⟨v, he, hb, hr⟩ => ?_
    · match i, h1, h2 with
      | 0, h1, h2 => simp at h1 h2; subst h1 h2; exact .v _
      | 1, h1, h2 => simp at h1 h2; subst h1 h2; exact .v _
      | i + 2, h1, h2 => simp at h1
    · have : v = .int .i64 (cf x y) := rep_v_inv hr
      subst this
      exact ⟨he, hb⟩
  irr := irr
  tr := tr
  ntr := ntr
  tot := tot
def cfPlane (x y : S4) : Int := cor [cI x.a y.a, cI x.b y.b, cI x.c y.c, cI x.d y.d]
theorem cmpPlane_f (x y : S4) : impl_CmpPlane.f 10 x y = some (cfPlane x y) := by
  simp only [impl_CmpPlane.f, cmp_f, Option.bind_some, or_f _ (show ([cI x.a y.a, cI x.b y.b, cI x.c y.c, cI x.d y.d] : List Int).length ≤ 9 by simp)]
  rfl
theorem cfPlane_lt {x y : S4} : cfPlane x y < 0 ↔ x.a < y.a ∨ (x.a = y.a ∧ (x.b < y.b ∨ (x.b = y.b ∧ (x.c < y.c ∨ (x.c = y.c ∧ x.d < y.d))))) := by
  unfold cfPlane cor
  have h1 := @cI_lt x.a y.a; have h2 := @cI_0 x.a y.a; have h3 := @cI_lt x.b y.b; have h4 := @cI_0 x.b y.b; have h5 := @cI_lt x.c y.c; have h6 := @cI_0 x.c y.c; have h7 := @cI_lt x.d y.d; have h8 := @cI_0 x.d y.d
  simp only [cor]
  split
  · omega
  · split
    · omega
    · split
      · omega
      · split <;> omega
def okPlane (_ : S4) : Bool := true
theorem cmpPlane_ok : CmpOk Try.prog 175 okPlane cfPlane := by
  refine cmpOk_of (impl_CmpPlane.ok 10) (fun x y => ?_) (fun x _ h => ?_) (fun x y z _ _ _ h1 h2 => ?_) (fun x y z _ _ _ h1 h2 h3 => ?_) (fun x y _ _ h1 h2 => ?_)
  · have h1 : (impl_CmpPlane.e 10).args.dec [aS4.enc x, aS4.enc y] = some (x, y, ()) := rfl
    have h2 : (impl_CmpPlane.e 10).f (x, y, ()) = some (cfPlane x y) := cmpPlane_f x y
    unfold FE.G
    rw [h1]
    simp only [h2]
    rfl
  · rw [cfPlane_lt] at h; omega
  · rw [cfPlane_lt] at h1 h2 ⊢; omega
  · rw [cfPlane_lt] at h1 h2 h3; omega
  · rw [cfPlane_lt] at h1 h2
    have a : x.a = y.a := by omega
    have b : x.b = y.b := by omega
    have c : x.c = y.c := by omega
    have d : x.d = y.d := by omega
    cases x; cases y; simp_all
def sl174_ren : Go.Shelf.Ren := ⟨fun | 6 => 174 | 14 => 213 | 15 => 214 | 20 => 229 | 21 => 230 | 22 => 231 | 23 => 232 | 24 => 233 | 25 => 234 | 26 => 235 | 27 => 236 | 28 => 237 | 29 => 238 | 46 => 248 | 47 => 249 | 48 => 250 | 49 => 251 | 50 => 252 | 57 => 256 | n => n, fun | 22 => 38 | 25 => 80 | 39 => 183 | 45 => 190 | 46 => 191 | 50 => 150 | 53 => 197 | 55 => 172 | 66 => 205 | 70 => 209 | 76 => 213 | 77 => 214 | n => n, fun n => n⟩
theorem sl174 : SlLaysF0.n6 Try.prog sl174_ren where
  mixed := by kernel_rfl
  f6 := ⟨Try.f174.name, by decide, Try.func174.trans (congrArg some (by kernel_rfl))⟩
  f14 := ⟨Try.f213.name, by decide, Try.func213.trans (congrArg some (by kernel_rfl))⟩
  f15 := Try.func214.trans (congrArg some (by kernel_rfl))
  f20 := ⟨Try.f229.name, by decide, Try.func229.trans (congrArg some (by kernel_rfl))⟩
  f21 := ⟨Try.f230.name, by decide, Try.func230.trans (congrArg some (by kernel_rfl))⟩
  f22 := ⟨Try.f231.name, by decide, Try.func231.trans (congrArg some (by kernel_rfl))⟩
  f23 := ⟨Try.f232.name, by decide, Try.func232.trans (congrArg some (by kernel_rfl))⟩
  f24 := ⟨Try.f233.name, by decide, Try.func233.trans (congrArg some (by kernel_rfl))⟩
  f25 := ⟨Try.f234.name, by decide, Try.func234.trans (congrArg some (by kernel_rfl))⟩
  f26 := ⟨Try.f235.name, by decide, Try.func235.trans (congrArg some (by kernel_rfl))⟩
  f27 := ⟨Try.f236.name, by decide, Try.func236.trans (congrArg some (by kernel_rfl))⟩
  f28 := Try.func237.trans (congrArg some (by kernel_rfl))
  f29 := Try.func238.trans (congrArg some (by kernel_rfl))
  f46 := ⟨Try.f248.name, by decide, Try.func248.trans (congrArg some (by kernel_rfl))⟩
  f47 := Try.func249.trans (congrArg some (by kernel_rfl))
  f48 := Try.func250.trans (congrArg some (by kernel_rfl))
  f49 := ⟨Try.f251.name, by decide, Try.func251.trans (congrArg some (by kernel_rfl))⟩
  f50 := ⟨Try.f252.name, by decide, Try.func252.trans (congrArg some (by kernel_rfl))⟩
  f57 := ⟨Try.f256.name, by decide, Try.func256.trans (congrArg some (by kernel_rfl))⟩
  t0 := Try.underlying0
  a0 := Try.isAgg0
  z0 := Try.sizeOf0
  v0 := Try.zeroValue0
  t3 := Try.underlying3
  a3 := Try.isAgg3
  z3 := Try.sizeOf3
  v3 := Try.zeroValue3
  t4 := Try.underlying4
  a4 := Try.isAgg4
  z4 := Try.sizeOf4
  v4 := Try.zeroValue4
  t5 := Try.underlying5
  a5 := Try.isAgg5
  z5 := Try.sizeOf5
  v5 := Try.zeroValue5
  t9 := Try.underlying9
  a9 := Try.isAgg9
  z9 := Try.sizeOf9
  v9 := Try.zeroValue9
  t22 := Try.underlying38
  a22 := Try.isAgg38
  z22 := Try.sizeOf38
  v22 := Try.zeroValue38
  t25 := Try.underlying80
  a25 := Try.isAgg80
  z25 := Try.sizeOf80
  v25 := Try.zeroValue80
  t39 := Try.underlying183
  a39 := Try.isAgg183
  z39 := Try.sizeOf183
  v39 := Try.zeroValue183
  t45 := Try.underlying190
  a45 := Try.isAgg190
  z45 := Try.sizeOf190
  v45 := Try.zeroValue190
  t46 := Try.underlying191
  a46 := Try.isAgg191
  z46 := Try.sizeOf191
  v46 := Try.zeroValue191
  t50 := Try.underlying150
  a50 := Try.isAgg150
  z50 := Try.sizeOf150
  v50 := Try.zeroValue150
  t53 := Try.underlying197
  a53 := Try.isAgg197
  z53 := Try.sizeOf197
  v53 := Try.zeroValue197
  t55 := Try.underlying172
  a55 := Try.isAgg172
  z55 := Try.sizeOf172
  v55 := Try.zeroValue172
  t66 := Try.underlying205
  a66 := Try.isAgg205
  z66 := Try.sizeOf205
  v66 := Try.zeroValue205
  t70 := Try.underlying209
  a70 := Try.isAgg209
  z70 := Try.sizeOf209
  v70 := Try.zeroValue209
  t76 := Try.underlying213
  a76 := Try.isAgg213
  z76 := Try.sizeOf213
  v76 := Try.zeroValue213
  t77 := Try.underlying214
  a77 := Try.isAgg214
  z77 := Try.sizeOf214
  v77 := Try.zeroValue214
noncomputable def slices_SortFunc174.f (k : Nat) (l : List S4) : Option (List S4) := sortV okPlane cfPlane l
noncomputable def slices_SortFunc174.e (k : Nat) : GV := sortG 24 175 (slices_SortFunc174.f k)
theorem slices_SortFunc174.ok (k : Nat) : FunS Try.prog 174 (slices_SortFunc174.e k).sk (slices_SortFunc174.e k).H :=
  sort_ok sl174 rfl Try.isAgg24 Try.sizeOf24 (by kernel_rfl) cmpPlane_ok
def sl177_ren : Go.Shelf.Ren := ⟨fun | 43 => 177 | n => n, fun | 22 => 38 | 23 => 24 | n => n, fun n => n⟩
theorem sl177 : Cm.LC43.n43 Try.prog sl177_ren where
  mixed := by kernel_rfl
  f43 := ⟨Try.f177.name, by decide, Try.func177.trans (congrArg some (by kernel_rfl))⟩
  t0 := Try.underlying0
  a0 := Try.isAgg0
  z0 := Try.sizeOf0
  v0 := Try.zeroValue0
  t3 := Try.underlying3
  a3 := Try.isAgg3
  z3 := Try.sizeOf3
  v3 := Try.zeroValue3
  t4 := Try.underlying4
  a4 := Try.isAgg4
  z4 := Try.sizeOf4
  v4 := Try.zeroValue4
  t22 := Try.underlying38
  a22 := Try.isAgg38
  z22 := Try.sizeOf38
  v22 := Try.zeroValue38
theorem eq177 : EqlAt Try.prog 24 (fun x => .agg (enc4 x).toArray) (fun x y => decide (x = y)) := by
  refine ⟨fun x y w => ?_, GuardAt.agg _ (by kernel_rfl)⟩
  have u3 := Try.underlying3
  have a3 := Try.isAgg3
  have z3 := Try.sizeOf3
  have hS : Try.prog.underlying 24 = some (.struct (Try.prog.fieldsOf 24)) := by kernel_rfl
  have hp : Try.prog.stoodInHeld 24 = false := by kernel_rfl
  simp only [enc4]
  rw [run_eql_struct, show (10000 : Nat) = 9999 + 1 from rfl, run_equalIn_agg w 9999 24 _ _ hS hp]
  simp only [Program.fieldsOf, Try.underlying24]
  go_simp
  have e : decide (x = y) = (decide (x.a = y.a) && decide (x.b = y.b) && decide (x.c = y.c) && decide (x.d = y.d)) := by
    cases x; cases y; simp [Bool.and_assoc]
  rw [e]
  by_cases h1 : x.a = y.a <;> by_cases h2 : x.b = y.b <;> by_cases h3 : x.c = y.c <;> by_cases h4 : x.d = y.d <;> simp [h1, h2, h3, h4]
theorem ne177 : NeqAt Try.prog 24 (fun x => .agg (enc4 x).toArray) (fun x y => decide (x = y)) := by
  refine ⟨fun x y w => ?_, eq177.2⟩
  have h := eq177.1 x y w
  rw [run_eql_struct] at h
  rw [run_neq_struct]
  revert h
  cases (Op.equalIn 10000 24 (.agg (enc4 x).toArray) (.agg (enc4 y).toArray)).run Try.prog w with
  | ok b w' => intro h; simp only [Result.andThen_ok] at h ⊢; cases h; rfl
  | halt h w' => intro h; cases h
noncomputable def slices_Compact177.f (k : Nat) (l : List S4) : Option (List S4) := compF l
noncomputable def slices_Compact177.e (k : Nat) : RV := ⟨24, .s4, slices_Compact177.f k⟩
theorem slices_Compact177.ok (k : Nat) : FunR Try.prog 177 (slices_Compact177.e k).H :=
  comp_ok sl177 rfl Try.isAgg24 Try.sizeOf24 (by kernel_rfl) eq177 ne177 Try.zeroValue24
theorem clip176 (A : Option Addr) (n cap : Nat) (w : World) (h : n ≤ cap) (h2 : A = none → cap = 0) : Calls Try.prog 176 #[.slice A n cap] w fun e w' => e = .returned (.slice A n n) ∧ w' = w := by
  cases A with
  | none =>
    obtain rfl := h2 rfl
    obtain rfl : n = 0 := by omega
    go_enter Try.func176, Try.ntmps176
    go_wp2
    go_ret
    exact ⟨rfl, rfl⟩
  | some a =>
    go_enter Try.func176, Try.ntmps176
    go_wp2
    go_ret
    exact ⟨rfl, rfl⟩
noncomputable def slices_Clip176.f (k : Nat) (l : List S4) : Option (List S4) := some l
noncomputable def slices_Clip176.e (k : Nat) : RV := ⟨24, .s4, slices_Clip176.f k⟩
theorem slices_Clip176.ok (k : Nat) : FunR Try.prog 176 (slices_Clip176.e k).H := clip_ok (by kernel_rfl) clip176
end Go.Proofs.Ytlkcpldohlemcaa.G
