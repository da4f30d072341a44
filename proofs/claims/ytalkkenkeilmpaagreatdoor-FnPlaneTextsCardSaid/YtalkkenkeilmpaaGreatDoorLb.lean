/- Functions of Go's library as the evaluator's contracts: by the shelf's, proved once over any program. -/
import Derived.Test.YtalkkenkeilmpaaGreatDoorEv16
import Derived.Test.YtalkkenkeilmpaaGreatDoorProg
import Derived.Shelf.Strconv.Itoa3
import Derived.Shelf.Strings.OnBuilder
import Derived.Shelf.Strings.Prefix
import Derived.Shelf.Strconv.AtoiAll
import Derived.Lib.SmallJoins
import Derived.Shelf.Strings.Split
namespace Go.Proofs.YtalkkenkeilmpaaGreatDoor.G
open Go Go.RowKit Go.Proofs Go.Proofs.YtalkkenkeilmpaaGreatDoor.Ev Go.Shelf
set_option linter.unusedVariables false
set_option linter.unusedSimpArgs false
set_option maxRecDepth 100000
theorem grow_belowD {w : World} {k : Nat} {os : Array Obj} {w' : World} (h : w' = Sort.grow (w.drewN k) os) : BelowD w w' := by
  subst h
  exact ⟨⟨rfl, rfl, rfl, by simp [Sort.grow, World.drewN], fun b hb => by simp only [Sort.grow, World.drewN]; rw [Array.getElem?_append_left hb]⟩, Nat.le_refl _⟩
theorem ofBelow {w w' : World} (h : Below w.heap.size w w') : BelowD w w' := ⟨h, Nat.le_refl _⟩
/-- a contract of one string or number argument, from its raw form. -/
theorem one_arg {α : Type} {c : AC α} {ar : List AV} {a : α × Unit} (h : (lCons c lNil).dec ar = some a) {vs : Array Value} (hn : vs.size = ar.length) {w : World} {A : Nat → Prop} (hrep : ∀ (i : Nat) (v : Value) (y : AV), vs[i]? = some v → ar[i]? = some y → Rep w A v y) :
    ∃ v, vs = #[v] ∧ Rep w A v (c.enc a.1) := by
  obtain ⟨hlen, hval⟩ := (lCons c lNil).ok ar a h
  have h1 : ar.length = 1 := hlen
  have hvs : vs.size = 1 := hn.trans h1
  refine ⟨vs[0], ?_, hval 0 ar[0] (c.enc a.1) (by simp [h1]) rfl w A vs[0] (hrep 0 _ _ (by simp [hvs]) (by simp [h1]))⟩
  apply Array.ext_getElem?
  intro i
  match i with
  | 0 => simp [hvs]
  | i + 1 => simp [hvs]
theorem two_args {α β : Type} {c : AC α} {d : AC β} {ar : List AV} {a : α × β × Unit} (h : (lCons c (lCons d lNil)).dec ar = some a) {vs : Array Value} (hn : vs.size = ar.length) {w : World} {A : Nat → Prop} (hrep : ∀ (i : Nat) (v : Value) (y : AV), vs[i]? = some v → ar[i]? = some y → Rep w A v y) :
    ∃ v u, vs = #[v, u] ∧ Rep w A v (c.enc a.1) ∧ Rep w A u (d.enc a.2.1) := by
  obtain ⟨hlen, hval⟩ := (lCons c (lCons d lNil)).ok ar a h
  have h1 : ar.length = 2 := hlen
  have hvs : vs.size = 2 := hn.trans h1
  refine ⟨vs[0], vs[1], ?_, hval 0 ar[0] (c.enc a.1) (by simp [h1]) rfl w A vs[0] (hrep 0 _ _ (by simp [hvs]) (by simp [h1])), hval 1 ar[1] (d.enc a.2.1) (by simp [h1]) rfl w A vs[1] (hrep 1 _ _ (by simp [hvs]) (by simp [h1]))⟩
  apply Array.ext_getElem?
  intro i
  match i with
  | 0 => simp [hvs]
  | 1 => simp [hvs]
  | i + 2 => simp [hvs]
def layItoa_ren : Go.Shelf.Ren := ⟨fun | 129 => 79 | 171 => 14 | 243 => 27 | 246 => 41 | 283 => 55 | 284 => 56 | 285 => 57 | 286 => 58 | 317 => 78 | 318 => 80 | 319 => 81 | 320 => 82 | 337 => 93 | 338 => 94 | n => n, fun | 37 => 22 | 46 => 82 | 51 => 110 | 53 => 84 | 171 => 83 | 173 => 87 | 212 => 109 | 213 => 111 | 232 => 131 | 233 => 132 | n => n, fun | 17 => 0 | 18 => 6 | 19 => 7 | n => n⟩
theorem layItoa : LaysM.n171 Tryz.prog layItoa_ren where
  mixed := by kernel_rfl
  f129 := Tryz.func79.trans (congrArg some (by kernel_rfl))
  f171 := Tryz.func14.trans (congrArg some (by kernel_rfl))
  f243 := Tryz.func27.trans (congrArg some (by kernel_rfl))
  f246 := Tryz.func41.trans (congrArg some (by kernel_rfl))
  f283 := Tryz.func55.trans (congrArg some (by kernel_rfl))
  f284 := Tryz.func56.trans (congrArg some (by kernel_rfl))
  f285 := Tryz.func57.trans (congrArg some (by kernel_rfl))
  f286 := Tryz.func58.trans (congrArg some (by kernel_rfl))
  f317 := Tryz.func78.trans (congrArg some (by kernel_rfl))
  f318 := Tryz.func80.trans (congrArg some (by kernel_rfl))
  f319 := Tryz.func81.trans (congrArg some (by kernel_rfl))
  f320 := Tryz.func82.trans (congrArg some (by kernel_rfl))
  f337 := Tryz.func93.trans (congrArg some (by kernel_rfl))
  f338 := Tryz.func94.trans (congrArg some (by kernel_rfl))
  t0 := Tryz.underlying0
  a0 := Tryz.isAgg0
  z0 := Tryz.sizeOf0
  v0 := Tryz.zeroValue0
  t2 := Tryz.underlying2
  a2 := Tryz.isAgg2
  z2 := Tryz.sizeOf2
  v2 := Tryz.zeroValue2
  t3 := Tryz.underlying3
  a3 := Tryz.isAgg3
  z3 := Tryz.sizeOf3
  v3 := Tryz.zeroValue3
  t4 := Tryz.underlying4
  a4 := Tryz.isAgg4
  z4 := Tryz.sizeOf4
  v4 := Tryz.zeroValue4
  t5 := Tryz.underlying5
  a5 := Tryz.isAgg5
  z5 := Tryz.sizeOf5
  v5 := Tryz.zeroValue5
  t9 := Tryz.underlying9
  a9 := Tryz.isAgg9
  z9 := Tryz.sizeOf9
  v9 := Tryz.zeroValue9
  t20 := Tryz.underlying20
  a20 := Tryz.isAgg20
  z20 := Tryz.sizeOf20
  v20 := Tryz.zeroValue20
  t37 := Tryz.underlying22
  a37 := Tryz.isAgg22
  z37 := Tryz.sizeOf22
  v37 := Tryz.zeroValue22
  t46 := Tryz.underlying82
  a46 := Tryz.isAgg82
  z46 := Tryz.sizeOf82
  v46 := Tryz.zeroValue82
  t51 := Tryz.underlying110
  a51 := Tryz.isAgg110
  z51 := Tryz.sizeOf110
  v51 := Tryz.zeroValue110
  t53 := Tryz.underlying84
  a53 := Tryz.isAgg84
  z53 := Tryz.sizeOf84
  v53 := Tryz.zeroValue84
  t171 := Tryz.underlying83
  a171 := Tryz.isAgg83
  z171 := Tryz.sizeOf83
  v171 := Tryz.zeroValue83
  t173 := Tryz.underlying87
  a173 := Tryz.isAgg87
  z173 := Tryz.sizeOf87
  v173 := Tryz.zeroValue87
  t212 := Tryz.underlying109
  a212 := Tryz.isAgg109
  z212 := Tryz.sizeOf109
  v212 := Tryz.zeroValue109
  t213 := Tryz.underlying111
  a213 := Tryz.isAgg111
  z213 := Tryz.sizeOf111
  t232 := Tryz.underlying131
  a232 := Tryz.isAgg131
  z232 := Tryz.sizeOf131
  v232 := Tryz.zeroValue131
  t233 := Tryz.underlying132
  a233 := Tryz.isAgg132
  z233 := Tryz.sizeOf132
  v233 := Tryz.zeroValue132
  g17 := by kernel_rfl
  g18 := by kernel_rfl
  g19 := by kernel_rfl
  i0 := by kernel_rfl
  i2 := by kernel_rfl
  i3 := by kernel_rfl
  i4 := by kernel_rfl
  i5 := by kernel_rfl
  i9 := by kernel_rfl
  i20 := by kernel_rfl
  i37 := by kernel_rfl
  i46 := by kernel_rfl
  i51 := by kernel_rfl
  i53 := by kernel_rfl
  i171 := by kernel_rfl
  i173 := by kernel_rfl
  i212 := by kernel_rfl
  i232 := by kernel_rfl
  i233 := by kernel_rfl
  m17 := by kernel_rfl
  m18 := by kernel_rfl
  m19 := by kernel_rfl
theorem tab_pow10 {w : World} (h : TabOk w) : Lib.TabIs Tryz.prog w "internal/strconv.uint64pow10" .u64 Lib.pow10Tab := by
  obtain ⟨c, t, s, h1, h2⟩ := h _ (List.mem_cons_self)
  have hg : (Tryz.prog.globalNamed "internal/strconv.uint64pow10") = some 0 := layItoa.m17
  unfold Lib.TabIs World.var?
  rw [hg]
  simp only [Option.bind_some, h1]
  rw [show c = _ from h2]
  rfl
noncomputable def strconv_Itoa.f (k : Nat) (n : Int) : Option ByteArray := if -9223372036854775808 ≤ n ∧ n ≤ 9223372036854775807 then some ⟨(Lib.itoa n).toArray⟩ else none
noncomputable def strconv_Itoa.e (k : Nat) : FE := { α := Int × Unit, β := ByteArray, args := lCons (aI .i64) lNil, ret := rOne aStr, f := fun p => strconv_Itoa.f k p.1 }
theorem strconv_Itoa.okW (k : Nat) : Fun Tryz.prog 14 (strconv_Itoa.e k).G where
  can := by kernel_rfl
  runs := fun ar rt hG vs w A htab hA hn hrep => by
    unfold FE.G at hG
    split at hG
    · rename_i p hp
      split at hG
      · rename_i b hb
        cases hG
        obtain ⟨v, rfl, hv⟩ := one_arg hp hn hrep
        have hv := rep_v_inv (show Rep w A v (.v (.int .i64 p.1)) from hv)
        subst hv
        have hb : (if -9223372036854775808 ≤ p.1 ∧ p.1 ≤ 9223372036854775807 then some (⟨(Lib.itoa p.1).toArray⟩ : ByteArray) else none) = some b := hb
        split at hb
        · rename_i hr
          cases hb
          have c : Calls Tryz.prog 14 #[.int .i64 p.1] w _ := Any.strconv_Itoa layItoa p.1 hr.1 hr.2 w (tab_pow10 htab)
          exact c.mono fun e w' ⟨he, j, os, hw⟩ => ⟨_, he, grow_belowD hw, .v _⟩
        · cases hb
      · cases hG
    · cases hG
def layJoin_ren : Go.Shelf.Ren := ⟨fun | 156 => 15 | 165 => 28 | 166 => 29 | 169 => 30 | 240 => 42 | 241 => 43 | 276 => 59 | 277 => 60 | n => n, fun | 31 => 37 | 37 => 22 | 70 => 52 | 72 => 54 | 75 => 57 | 76 => 58 | 80 => 60 | 127 => 69 | 164 => 89 | n => n, fun n => n⟩
theorem layJoin : Lays.n156 Tryz.prog layJoin_ren where
  mixed := by kernel_rfl
  f156 := Tryz.func15.trans (congrArg some (by kernel_rfl))
  f165 := Tryz.func28.trans (congrArg some (by kernel_rfl))
  f166 := Tryz.func29.trans (congrArg some (by kernel_rfl))
  f169 := Tryz.func30.trans (congrArg some (by kernel_rfl))
  f240 := Tryz.func42.trans (congrArg some (by kernel_rfl))
  f241 := Tryz.func43.trans (congrArg some (by kernel_rfl))
  f276 := Tryz.func59.trans (congrArg some (by kernel_rfl))
  f277 := Tryz.func60.trans (congrArg some (by kernel_rfl))
  t0 := Tryz.underlying0
  a0 := Tryz.isAgg0
  z0 := Tryz.sizeOf0
  v0 := Tryz.zeroValue0
  t3 := Tryz.underlying3
  a3 := Tryz.isAgg3
  z3 := Tryz.sizeOf3
  v3 := Tryz.zeroValue3
  t4 := Tryz.underlying4
  a4 := Tryz.isAgg4
  z4 := Tryz.sizeOf4
  v4 := Tryz.zeroValue4
  t9 := Tryz.underlying9
  a9 := Tryz.isAgg9
  z9 := Tryz.sizeOf9
  v9 := Tryz.zeroValue9
  t20 := Tryz.underlying20
  a20 := Tryz.isAgg20
  z20 := Tryz.sizeOf20
  v20 := Tryz.zeroValue20
  t31 := Tryz.underlying37
  a31 := Tryz.isAgg37
  z31 := Tryz.sizeOf37
  v31 := Tryz.zeroValue37
  t37 := Tryz.underlying22
  a37 := Tryz.isAgg22
  z37 := Tryz.sizeOf22
  v37 := Tryz.zeroValue22
  t70 := Tryz.underlying52
  a70 := Tryz.isAgg52
  z70 := Tryz.sizeOf52
  v70 := Tryz.zeroValue52
  t72 := Tryz.underlying54
  a72 := Tryz.isAgg54
  z72 := Tryz.sizeOf54
  v72 := Tryz.zeroValue54
  t75 := Tryz.underlying57
  a75 := Tryz.isAgg57
  z75 := Tryz.sizeOf57
  v75 := Tryz.zeroValue57
  t76 := Tryz.underlying58
  a76 := Tryz.isAgg58
  z76 := Tryz.sizeOf58
  v76 := Tryz.zeroValue58
  t127 := Tryz.underlying69
  a127 := Tryz.isAgg69
  z127 := Tryz.sizeOf69
  v127 := Tryz.zeroValue69
  t164 := Tryz.underlying89
  a164 := Tryz.isAgg89
  z164 := Tryz.sizeOf89
  v164 := Tryz.zeroValue89
theorem extraJoin : Builder.Extra Tryz.prog layJoin_ren where
  sizeBuilder := by kernel_rfl
  liesBuilder := by kernel_rfl
  t5 := Tryz.underlying5
  a5 := Tryz.isAgg5
  z5 := Tryz.sizeOf5
  v5 := Tryz.zeroValue5
  infoByte := by kernel_rfl
  cellsByte := by kernel_rfl
  sizeByte := by kernel_rfl
  neB5 := by decide
def joinB (l : List ByteArray) (sep : ByteArray) : ByteArray := ⟨(Lib.join (l.map (·.data.toList)) sep.data.toList).toArray⟩
noncomputable def strings_Join.f (k : Nat) (l : List ByteArray) (sep : ByteArray) : Option ByteArray := if l.length ≤ 140737488355328 ∧ (Lib.join (l.map (·.data.toList)) sep.data.toList).length ≤ 140737488355328 then some (joinB l sep) else none
noncomputable def strings_Join.e (k : Nat) : FE := { α := List ByteArray × ByteArray × Unit, β := ByteArray, args := lCons (aSl .str) (lCons aStr lNil), ret := rOne aStr, f := fun p => strings_Join.f k p.1 p.2.1 }
theorem strings_Join.okW (k : Nat) : Fun Tryz.prog 15 (strings_Join.e k).G where
  can := by kernel_rfl
  runs := fun ar rt hG vs w A htab hA hn hrep => by
    unfold FE.G at hG
    split at hG
    · rename_i p hp
      split at hG
      · rename_i b hb
        cases hG
        obtain ⟨v, u, rfl, hv, hu⟩ := two_args hp hn hrep
        have hu := rep_v_inv (show Rep w A u (.v (.string p.2.1)) from hu)
        subst hu
        have hv : Rep w A v (.sl .str p.1) := hv
        have hb : (if p.1.length ≤ 140737488355328 ∧ (Lib.join (p.1.map (·.data.toList)) p.2.1.data.toList).length ≤ 140737488355328 then some (joinB p.1 p.2.1) else none) = some b := hb
        split at hb
        · rename_i hr
          cases hb
          generalize hl : p.1 = l at hv hr ⊢
          generalize hs : p.2.1 = sep at hr ⊢
          have key : Calls Tryz.prog 15 #[v, .string sep] w fun e w' => e = .returned (.string (joinB l sep)) ∧ Below w.heap.size w w' := by
            have hvi : ∃ B c, v = .slice B l.length c ∧ l.length ≤ c ∧ ∀ j (h : j < l.length), ∃ a, B = some a ∧ a.spot = none ∧ a.block < w.heap.size ∧ w.cell? ⟨a.block, a.off + j, none⟩ = some (.string l[j]) := by
              generalize hq : l = q at hv
              cases hv with
              | sl B cap _ _ vals hcap hnil hA' hR =>
                refine ⟨B, cap, rfl, hcap, fun j hj => ?_⟩
                obtain ⟨a, h1, h2, h3, h4⟩ := hA' j hj
                refine ⟨a, h1, h2, hA _ h3, ?_⟩
                have h5 := h4 0 Nat.zero_lt_one
                have h6 := rep_v_inv (show Rep w A (vals j 0) (.v (.string (q.getD j default))) from hR j 0 hj Nat.zero_lt_one)
                rw [show El.str.z = 1 from rfl, Nat.mul_one, Nat.add_zero] at h5
                rw [h5, h6]
                simp [List.getD_eq_getElem?_getD, hj]
            obtain ⟨B, c, rfl, hc, hcell⟩ := hvi
            by_cases h0 : l.length = 0
            · have : l = [] := List.eq_nil_of_length_eq_zero h0
              subst this
              exact (Any.strings_Join_none layJoin extraJoin B c sep w).mono fun e w' ⟨he, hw⟩ => ⟨he, hw ▸ Below.refl _ _⟩
            · obtain ⟨a, rfl, h2, h3, _⟩ := hcell 0 (by omega)
              obtain ⟨bk, o, sp⟩ := a
              have h2 : sp = none := h2
              subst h2
              exact Any.strings_Join layJoin extraJoin bk o c l sep w (fun j x hx => by
                obtain ⟨hj, rfl⟩ := List.getElem?_eq_some_iff.1 hx
                obtain ⟨a, e, _, _, h⟩ := hcell j hj
                cases e
                exact h) h3 hr.1 hc hr.2
          exact key.mono fun e w' ⟨he, hw⟩ => ⟨_, he, ofBelow hw, .v _⟩
        · cases hb
      · cases hG
    · cases hG
def layTrim_ren : Go.Shelf.Ren := ⟨fun | 101 => 37 | 206 => 70 | 208 => 49 | n => n, fun n => n, fun n => n⟩
theorem layTrim : Lays.n101 Tryz.prog layTrim_ren where
  mixed := by kernel_rfl
  f101 := Tryz.func37.trans (congrArg some (by kernel_rfl))
  f206 := Tryz.func70.trans (congrArg some (by kernel_rfl))
  f208 := Tryz.func49.trans (congrArg some (by kernel_rfl))
  t3 := Tryz.underlying3
  a3 := Tryz.isAgg3
  z3 := Tryz.sizeOf3
  v3 := Tryz.zeroValue3
  t4 := Tryz.underlying4
  a4 := Tryz.isAgg4
  z4 := Tryz.sizeOf4
  v4 := Tryz.zeroValue4
  t9 := Tryz.underlying9
  a9 := Tryz.isAgg9
  z9 := Tryz.sizeOf9
  v9 := Tryz.zeroValue9
noncomputable def strings_TrimPrefix.f (k : Nat) (s p : ByteArray) : Option ByteArray := some ⟨(Lib.trimPrefix s.data.toList p.data.toList).toArray⟩
noncomputable def strings_TrimPrefix.e (k : Nat) : FE := { α := ByteArray × ByteArray × Unit, β := ByteArray, args := lCons aStr (lCons aStr lNil), ret := rOne aStr, f := fun p => strings_TrimPrefix.f k p.1 p.2.1 }
theorem strings_TrimPrefix.okW (k : Nat) : Fun Tryz.prog 37 (strings_TrimPrefix.e k).G where
  can := by kernel_rfl
  runs := fun ar rt hG vs w A htab hA hn hrep => by
    unfold FE.G at hG
    split at hG
    · rename_i p hp
      split at hG
      · rename_i b hb
        cases hG
        obtain ⟨v, u, rfl, hv, hu⟩ := two_args hp hn hrep
        have hu := rep_v_inv (show Rep w A u (.v (.string p.2.1)) from hu)
        have hv := rep_v_inv (show Rep w A v (.v (.string p.1)) from hv)
        subst hu hv
        have hb : some (⟨(Lib.trimPrefix p.1.data.toList p.2.1.data.toList).toArray⟩ : ByteArray) = some b := hb
        cases hb
        have c : Calls Tryz.prog 37 #[.string p.1, .string p.2.1] w _ := Any.strings_TrimPrefix layTrim p.1 p.2.1 w
        exact c.mono fun e w' ⟨he, hw⟩ => ⟨_, he, hw ▸ ofBelow (Below.refl _ _), .v _⟩
      · cases hG
    · cases hG
def layAtoi_ren : Go.Shelf.Ren := ⟨fun | 129 => 79 | 171 => 14 | 172 => 36 | 205 => 90 | 243 => 27 | 244 => 47 | 245 => 48 | 246 => 41 | 247 => 65 | 279 => 66 | 280 => 67 | 281 => 68 | 282 => 69 | 283 => 55 | 284 => 56 | 285 => 57 | 286 => 58 | 287 => 88 | 316 => 89 | 317 => 78 | 318 => 80 | 319 => 81 | 320 => 82 | 321 => 97 | 322 => 98 | 337 => 93 | 338 => 94 | n => n, fun | 37 => 22 | 46 => 82 | 51 => 110 | 53 => 84 | 75 => 57 | 76 => 58 | 80 => 60 | 85 => 97 | 127 => 69 | 143 => 128 | 145 => 130 | 167 => 96 | 168 => 99 | 171 => 83 | 173 => 87 | 175 => 113 | 210 => 117 | 212 => 109 | 213 => 111 | 232 => 131 | 233 => 132 | n => n, fun | 15 => 2 | 16 => 3 | 17 => 0 | 18 => 6 | 19 => 7 | n => n⟩
theorem layAtoi : LaysC.n172 Tryz.prog layAtoi_ren where
  mixed := by kernel_rfl
  f129 := Tryz.func79.trans (congrArg some (by kernel_rfl))
  f171 := Tryz.func14.trans (congrArg some (by kernel_rfl))
  f172 := Tryz.func36.trans (congrArg some (by kernel_rfl))
  f205 := Tryz.func90.trans (congrArg some (by kernel_rfl))
  f243 := Tryz.func27.trans (congrArg some (by kernel_rfl))
  f244 := Tryz.func47.trans (congrArg some (by kernel_rfl))
  f245 := Tryz.func48.trans (congrArg some (by kernel_rfl))
  f246 := Tryz.func41.trans (congrArg some (by kernel_rfl))
  f247 := Tryz.func65.trans (congrArg some (by kernel_rfl))
  f279 := Tryz.func66.trans (congrArg some (by kernel_rfl))
  f280 := Tryz.func67.trans (congrArg some (by kernel_rfl))
  f281 := Tryz.func68.trans (congrArg some (by kernel_rfl))
  f282 := Tryz.func69.trans (congrArg some (by kernel_rfl))
  f283 := Tryz.func55.trans (congrArg some (by kernel_rfl))
  f284 := Tryz.func56.trans (congrArg some (by kernel_rfl))
  f285 := Tryz.func57.trans (congrArg some (by kernel_rfl))
  f286 := Tryz.func58.trans (congrArg some (by kernel_rfl))
  f287 := Tryz.func88.trans (congrArg some (by kernel_rfl))
  f316 := Tryz.func89.trans (congrArg some (by kernel_rfl))
  f317 := Tryz.func78.trans (congrArg some (by kernel_rfl))
  f318 := Tryz.func80.trans (congrArg some (by kernel_rfl))
  f319 := Tryz.func81.trans (congrArg some (by kernel_rfl))
  f320 := Tryz.func82.trans (congrArg some (by kernel_rfl))
  f321 := Tryz.func97.trans (congrArg some (by kernel_rfl))
  f322 := Tryz.func98.trans (congrArg some (by kernel_rfl))
  f337 := Tryz.func93.trans (congrArg some (by kernel_rfl))
  f338 := Tryz.func94.trans (congrArg some (by kernel_rfl))
  t0 := Tryz.underlying0
  a0 := Tryz.isAgg0
  z0 := Tryz.sizeOf0
  v0 := Tryz.zeroValue0
  t2 := Tryz.underlying2
  a2 := Tryz.isAgg2
  z2 := Tryz.sizeOf2
  v2 := Tryz.zeroValue2
  t3 := Tryz.underlying3
  a3 := Tryz.isAgg3
  z3 := Tryz.sizeOf3
  v3 := Tryz.zeroValue3
  t4 := Tryz.underlying4
  a4 := Tryz.isAgg4
  z4 := Tryz.sizeOf4
  v4 := Tryz.zeroValue4
  t5 := Tryz.underlying5
  a5 := Tryz.isAgg5
  z5 := Tryz.sizeOf5
  v5 := Tryz.zeroValue5
  t9 := Tryz.underlying9
  a9 := Tryz.isAgg9
  z9 := Tryz.sizeOf9
  v9 := Tryz.zeroValue9
  t20 := Tryz.underlying20
  a20 := Tryz.isAgg20
  z20 := Tryz.sizeOf20
  v20 := Tryz.zeroValue20
  t21 := Tryz.underlying21
  a21 := Tryz.isAgg21
  z21 := Tryz.sizeOf21
  v21 := Tryz.zeroValue21
  t37 := Tryz.underlying22
  a37 := Tryz.isAgg22
  z37 := Tryz.sizeOf22
  v37 := Tryz.zeroValue22
  t46 := Tryz.underlying82
  a46 := Tryz.isAgg82
  z46 := Tryz.sizeOf82
  v46 := Tryz.zeroValue82
  t51 := Tryz.underlying110
  a51 := Tryz.isAgg110
  z51 := Tryz.sizeOf110
  v51 := Tryz.zeroValue110
  t53 := Tryz.underlying84
  a53 := Tryz.isAgg84
  z53 := Tryz.sizeOf84
  v53 := Tryz.zeroValue84
  t75 := Tryz.underlying57
  a75 := Tryz.isAgg57
  z75 := Tryz.sizeOf57
  v75 := Tryz.zeroValue57
  t76 := Tryz.underlying58
  a76 := Tryz.isAgg58
  z76 := Tryz.sizeOf58
  v76 := Tryz.zeroValue58
  t85 := Tryz.underlying97
  a85 := Tryz.isAgg97
  z85 := Tryz.sizeOf97
  v85 := Tryz.zeroValue97
  t127 := Tryz.underlying69
  a127 := Tryz.isAgg69
  z127 := Tryz.sizeOf69
  v127 := Tryz.zeroValue69
  t143 := Tryz.underlying128
  a143 := Tryz.isAgg128
  z143 := Tryz.sizeOf128
  v143 := Tryz.zeroValue128
  t145 := Tryz.underlying130
  a145 := Tryz.isAgg130
  z145 := Tryz.sizeOf130
  v145 := Tryz.zeroValue130
  t167 := Tryz.underlying96
  a167 := Tryz.isAgg96
  z167 := Tryz.sizeOf96
  v167 := Tryz.zeroValue96
  t168 := Tryz.underlying99
  a168 := Tryz.isAgg99
  z168 := Tryz.sizeOf99
  v168 := Tryz.zeroValue99
  t171 := Tryz.underlying83
  a171 := Tryz.isAgg83
  z171 := Tryz.sizeOf83
  v171 := Tryz.zeroValue83
  t173 := Tryz.underlying87
  a173 := Tryz.isAgg87
  z173 := Tryz.sizeOf87
  v173 := Tryz.zeroValue87
  t175 := Tryz.underlying113
  a175 := Tryz.isAgg113
  z175 := Tryz.sizeOf113
  v175 := Tryz.zeroValue113
  t210 := Tryz.underlying117
  a210 := Tryz.isAgg117
  z210 := Tryz.sizeOf117
  v210 := Tryz.zeroValue117
  t212 := Tryz.underlying109
  a212 := Tryz.isAgg109
  z212 := Tryz.sizeOf109
  v212 := Tryz.zeroValue109
  t213 := Tryz.underlying111
  a213 := Tryz.isAgg111
  z213 := Tryz.sizeOf111
  t232 := Tryz.underlying131
  a232 := Tryz.isAgg131
  z232 := Tryz.sizeOf131
  v232 := Tryz.zeroValue131
  t233 := Tryz.underlying132
  a233 := Tryz.isAgg132
  z233 := Tryz.sizeOf132
  v233 := Tryz.zeroValue132
  g15 := by kernel_rfl
  g16 := by kernel_rfl
  g17 := by kernel_rfl
  g18 := by kernel_rfl
  g19 := by kernel_rfl
  t80 := Tryz.underlying60
  a80 := Tryz.isAgg60
  z80 := Tryz.sizeOf60
  v80 := Tryz.zeroValue60
  i0 := by kernel_rfl
  i2 := by kernel_rfl
  i3 := by kernel_rfl
  i4 := by kernel_rfl
  i5 := by kernel_rfl
  i9 := by kernel_rfl
  i20 := by kernel_rfl
  i21 := by kernel_rfl
  i37 := by kernel_rfl
  i46 := by kernel_rfl
  i51 := by kernel_rfl
  i53 := by kernel_rfl
  i75 := by kernel_rfl
  i76 := by kernel_rfl
  i80 := by kernel_rfl
  i85 := by kernel_rfl
  i127 := by kernel_rfl
  i143 := by kernel_rfl
  i145 := by kernel_rfl
  i167 := by kernel_rfl
  i168 := by kernel_rfl
  i171 := by kernel_rfl
  i173 := by kernel_rfl
  i175 := by kernel_rfl
  i210 := by kernel_rfl
  i212 := by kernel_rfl
  i232 := by kernel_rfl
  i233 := by kernel_rfl
  m15 := by kernel_rfl
  m16 := by kernel_rfl
  m17 := by kernel_rfl
  m18 := by kernel_rfl
  m19 := by kernel_rfl
  c0 := by kernel_rfl
  c2 := by kernel_rfl
  c3 := by kernel_rfl
  c4 := by kernel_rfl
  c5 := by kernel_rfl
  c9 := by kernel_rfl
  c20 := by kernel_rfl
  c21 := by kernel_rfl
  c37 := by kernel_rfl
  c46 := by kernel_rfl
  c51 := by kernel_rfl
  c53 := by kernel_rfl
  c75 := by kernel_rfl
  c76 := by kernel_rfl
  c80 := by kernel_rfl
  c85 := by kernel_rfl
  c127 := by kernel_rfl
  c143 := by kernel_rfl
  c145 := by kernel_rfl
  c167 := by kernel_rfl
  c168 := by kernel_rfl
  c171 := by kernel_rfl
  c173 := by kernel_rfl
  c175 := by kernel_rfl
  c210 := by kernel_rfl
  c212 := by kernel_rfl
  c213 := by kernel_rfl
  c232 := by kernel_rfl
  c233 := by kernel_rfl
theorem tab_err {w : World} (h : TabOk w) {g : Nat} (hg : ∃ x ∈ tabs, x.1 = g ∧ ∀ c, x.2 c → ∃ ev, c[0]? = some ev ∧ (ev = .nilIface ∨ ∃ te pe, ev = .iface te pe)) : ∃ ev, w.cell? ⟨g, 0, none⟩ = some ev ∧ (ev = .nilIface ∨ ∃ te pe, ev = .iface te pe) := by
  obtain ⟨x, hx, rfl, hc⟩ := hg
  obtain ⟨c, t, s, h1, h2⟩ := h x hx
  obtain ⟨ev, h3, h4⟩ := hc c h2
  refine ⟨ev, ?_, h4⟩
  have : 0 < c.size := (Array.getElem?_eq_some_iff.1 h3).1
  simp [World.cell?, h1, h3]
noncomputable def strconv_Atoi.f (k : Nat) (s : ByteArray) : Option (Int × Bool × Unit) := if s.size ≤ 281474976710656 then some (match Lib.atoiAll s.data.toList with | .ok v => (v, false, ()) | .range => (Lib.atoiSat s.data.toList, true, ()) | _ => (0, true, ())) else none
noncomputable def strconv_Atoi.e (k : Nat) : FE := { α := ByteArray × Unit, β := Int × Bool × Unit, args := lCons aStr lNil, ret := rMany (lCons (aI .i64) (lCons aEr lNil)), f := fun p => strconv_Atoi.f k p.1 }
theorem ret2 {w w' : World} {A : Nat → Prop} {n : Int} {b : Bool} {ev : Value} (h : Rep w' (fresh w w' A) ev (.er b)) : RetRep w w' A (.tuple #[.int .i64 n, ev]) (.many [.v (.int .i64 n), .er b]) := by
  refine ⟨_, rfl, rfl, fun i u y h1 h2 => ?_⟩
  match i with
  | 0 => simp at h1 h2; subst h1 h2; exact .v _
  | 1 => simp at h1 h2; subst h1 h2; exact h
  | i + 2 => simp at h1
theorem strconv_Atoi.okW (k : Nat) : Fun Tryz.prog 36 (strconv_Atoi.e k).G where
  can := by kernel_rfl
  runs := fun ar rt hG vs w A htab hA hn hrep => by
    unfold FE.G at hG
    split at hG
    · rename_i p hp
      split at hG
      · rename_i b hb
        cases hG
        obtain ⟨v, rfl, hv⟩ := one_arg hp hn hrep
        have hv := rep_v_inv (show Rep w A v (.v (.string p.1)) from hv)
        subst hv
        have hb : (if p.1.size ≤ 281474976710656 then some (match Lib.atoiAll p.1.data.toList with | .ok v => (v, false, ()) | .range => (Lib.atoiSat p.1.data.toList, true, ()) | _ => (0, true, ())) else none) = some b := hb
        split at hb
        · rename_i hr
          obtain ⟨e1, c1, c2⟩ := tab_err htab (g := layAtoi_ren.g 15) ⟨tabs[2]'(by decide), List.getElem_mem _, rfl, fun c h => h⟩
          obtain ⟨e2, c3, c4⟩ := tab_err htab (g := layAtoi_ren.g 16) ⟨tabs[3]'(by decide), List.getElem_mem _, rfl, fun c h => h⟩
          have hb := Option.some.inj hb
          cases hq : Lib.atoiAll p.1.data.toList
          · rename_i v
            rw [hq] at hb
            simp only at hb
            subst hb
            have c : Calls Tryz.prog 36 #[.string p.1] w _ := Any.strconv_Atoi_ok layAtoi p.1 (by omega) v hq w
            refine c.mono fun e w' ⟨he, hw⟩ => ⟨_, he, ?_, ret2 (.er _ false (.inl ⟨rfl, rfl⟩))⟩
            rcases hw with rfl | ⟨t, rfl⟩
            · exact ofBelow (Below.refl _ _)
            · exact ofBelow (Go.Joins.below_bytesWorld w.heap.size w _ t (Nat.le_refl _))
          · rw [hq] at hb
            simp only at hb
            subst hb
            have c : Calls Tryz.prog 36 #[.string p.1] w _ := Any.strconv_Atoi_syntax layAtoi p.1 hr hq e1 w c1 c2
            exact c.mono fun e w' ⟨N, he, _, _, hw⟩ => ⟨_, he, ofBelow hw, ret2 (.er _ true (.inr ⟨rfl, _, _, rfl⟩))⟩
          · rw [hq] at hb
            simp only at hb
            subst hb
            have c : Calls Tryz.prog 36 #[.string p.1] w _ := Any.strconv_Atoi_range layAtoi p.1 hr hq e2 w c3 c4
            exact c.mono fun e w' ⟨N, he, _, _, hw⟩ => ⟨_, he, ofBelow hw, ret2 (.er _ true (.inr ⟨rfl, _, _, rfl⟩))⟩
        · cases hb
      · cases hG
    · cases hG
def laySplit_ren : Go.Shelf.Ren := ⟨fun | 138 => 45 | 143 => 46 | 146 => 22 | 195 => 61 | 197 => 62 | 217 => 84 | 218 => 63 | 219 => 64 | 221 => 35 | 224 => 86 | 225 => 85 | 260 => 83 | 266 => 95 | 267 => 87 | 268 => 44 | 314 => 96 | n => n, fun | 31 => 37 | 46 => 82 | 51 => 110 | 105 => 93 | 119 => 120 | 138 => 122 | 139 => 123 | 146 => 124 | n => n, fun | 3 => 4 | 4 => 5 | n => n⟩
theorem laySplit : Lays.n146 Tryz.prog laySplit_ren where
  mixed := by kernel_rfl
  f138 := Tryz.func45.trans (congrArg some (by kernel_rfl))
  f143 := Tryz.func46.trans (congrArg some (by kernel_rfl))
  f146 := Tryz.func22.trans (congrArg some (by kernel_rfl))
  f195 := Tryz.func61.trans (congrArg some (by kernel_rfl))
  f197 := Tryz.func62.trans (congrArg some (by kernel_rfl))
  f217 := Tryz.func84.trans (congrArg some (by kernel_rfl))
  f218 := Tryz.func63.trans (congrArg some (by kernel_rfl))
  f219 := Tryz.func64.trans (congrArg some (by kernel_rfl))
  f221 := Tryz.func35.trans (congrArg some (by kernel_rfl))
  f224 := Tryz.func86.trans (congrArg some (by kernel_rfl))
  f225 := Tryz.func85.trans (congrArg some (by kernel_rfl))
  f260 := Tryz.func83.trans (congrArg some (by kernel_rfl))
  f266 := Tryz.func95.trans (congrArg some (by kernel_rfl))
  f267 := Tryz.func87.trans (congrArg some (by kernel_rfl))
  f268 := Tryz.func44.trans (congrArg some (by kernel_rfl))
  f314 := Tryz.func96.trans (congrArg some (by kernel_rfl))
  t0 := Tryz.underlying0
  a0 := Tryz.isAgg0
  z0 := Tryz.sizeOf0
  v0 := Tryz.zeroValue0
  t3 := Tryz.underlying3
  a3 := Tryz.isAgg3
  z3 := Tryz.sizeOf3
  v3 := Tryz.zeroValue3
  t4 := Tryz.underlying4
  a4 := Tryz.isAgg4
  z4 := Tryz.sizeOf4
  v4 := Tryz.zeroValue4
  t5 := Tryz.underlying5
  a5 := Tryz.isAgg5
  z5 := Tryz.sizeOf5
  v5 := Tryz.zeroValue5
  t9 := Tryz.underlying9
  a9 := Tryz.isAgg9
  z9 := Tryz.sizeOf9
  v9 := Tryz.zeroValue9
  t21 := Tryz.underlying21
  a21 := Tryz.isAgg21
  z21 := Tryz.sizeOf21
  v21 := Tryz.zeroValue21
  t31 := Tryz.underlying37
  a31 := Tryz.isAgg37
  z31 := Tryz.sizeOf37
  v31 := Tryz.zeroValue37
  t46 := Tryz.underlying82
  a46 := Tryz.isAgg82
  z46 := Tryz.sizeOf82
  v46 := Tryz.zeroValue82
  t51 := Tryz.underlying110
  a51 := Tryz.isAgg110
  z51 := Tryz.sizeOf110
  v51 := Tryz.zeroValue110
  t105 := Tryz.underlying93
  a105 := Tryz.isAgg93
  z105 := Tryz.sizeOf93
  v105 := Tryz.zeroValue93
  t119 := Tryz.underlying120
  a119 := Tryz.isAgg120
  z119 := Tryz.sizeOf120
  t138 := Tryz.underlying122
  a138 := Tryz.isAgg122
  z138 := Tryz.sizeOf122
  v138 := Tryz.zeroValue122
  t139 := Tryz.underlying123
  a139 := Tryz.isAgg123
  z139 := Tryz.sizeOf123
  v139 := Tryz.zeroValue123
  t146 := Tryz.underlying124
  a146 := Tryz.isAgg124
  z146 := Tryz.sizeOf124
  v146 := Tryz.zeroValue124
  g1 := by kernel_rfl
  g3 := by kernel_rfl
  g4 := by kernel_rfl
theorem tab_int {w : World} (h : TabOk w) {g : Nat} (hg : ∃ x ∈ tabs, x.1 = g ∧ ∀ c, x.2 c → ∃ m, c[0]? = some (.int .i64 m)) : ∃ m, w.cell? ⟨g, 0, none⟩ = some (.int .i64 m) := by
  obtain ⟨x, hx, rfl, hc⟩ := hg
  obtain ⟨c, t, s, h1, h2⟩ := h x hx
  obtain ⟨m, h3⟩ := hc c h2
  refine ⟨m, ?_⟩
  have : 0 < c.size := (Array.getElem?_eq_some_iff.1 h3).1
  simp [World.cell?, h1, h3]
theorem split_key {w : World} (htab : TabOk w) {A : Nat → Prop} (s p : ByteArray) (h1 : s.size < 4294967281) (h2 : 1 ≤ p.size) : Calls Tryz.prog 22 #[.string s, .string p] w fun e w' => ∃ v, e = .returned v ∧ BelowD w w' ∧ RetRep w w' A v (.own 9 .str (Lib.splitB p 0 (Lib.countB s p) s)) := by
  obtain ⟨m, hm⟩ := tab_int htab (g := laySplit_ren.g 1) ⟨tabs[1]'(by decide), List.getElem_mem _, rfl, fun c h => h⟩
  have hlen : (Lib.splitB p 0 (Lib.countB s p) s).length = Lib.countB s p + 1 := Lib.splitB_all p h2 0 _ s rfl
  have c : Calls Tryz.prog 22 #[.string s, .string p] w _ := Any.strings_Split laySplit (by kernel_rfl) s p m w h1 hm h2
  have hmx := Lib.countB_le p h2 s.size s (Nat.le_refl _)
  generalize Lib.splitB p 0 (Lib.countB s p) s = b at hlen c
  refine c.mono fun e w' ⟨he, hw⟩ => ⟨_, he, ?_, (b.map Value.string), ?_, fun j q hj hq => ?_⟩
  · rw [hw]; exact ofBelow ⟨rfl, rfl, rfl, by rw [al_size]; omega, fun i hi => Below.heap_alloc w _ i hi⟩
  · rw [← hlen, hw]
    have := ownsW_lit (base := w.heap.size) (e := 9) (size := 1) w (b.map Value.string).toArray b.length (Nat.le_refl _) (maxLen_ge (by rw [hlen]; omega)) (by simp)
    rw [show laySplit_ren.t 9 = 9 from rfl, show El.str.z = 1 from rfl]
    simpa using this
  · have hq0 : q = 0 := by have : q < 1 := hq; omega
    subst hq0
    refine ⟨.string b[j], by rw [show El.str.z = 1 from rfl, Nat.mul_one, Nat.add_zero]; simp [hj], ?_⟩
    have e : El.cell .str (b.getD j default) 0 = .v (.string b[j]) := by simp [El.cell, List.getD_eq_getElem?_getD, hj]
    rw [e]; exact .v _
noncomputable def strings_Split.f (k : Nat) (s p : ByteArray) : Option (List ByteArray) := if s.size < 4294967281 ∧ 1 ≤ p.size then some (Lib.splitB p 0 (Lib.countB s p) s) else none
noncomputable def strings_Split.e (k : Nat) : FE := { α := ByteArray × ByteArray × Unit, β := List ByteArray, args := lCons aStr (lCons aStr lNil), ret := rOwn 9 .str, f := fun p => strings_Split.f k p.1 p.2.1 }
theorem strings_Split.okW (k : Nat) : Fun Tryz.prog 22 (strings_Split.e k).G where
  can := by kernel_rfl
  runs := fun ar rt hG vs w A htab hA hn hrep => by
    unfold FE.G at hG
    split at hG
    · rename_i p hp
      split at hG
      · rename_i b hb
        cases hG
        obtain ⟨v, u, rfl, hv, hu⟩ := two_args hp hn hrep
        have hu := rep_v_inv (show Rep w A u (.v (.string p.2.1)) from hu)
        have hv := rep_v_inv (show Rep w A v (.v (.string p.1)) from hv)
        subst hu hv
        have hb : (if p.1.size < 4294967281 ∧ 1 ≤ p.2.1.size then some (Lib.splitB p.2.1 0 (Lib.countB p.1 p.2.1) p.1) else none) = some b := hb
        split at hb
        · rename_i hr
          have hb := Option.some.inj hb
          subst hb
          exact split_key htab p.1 p.2.1 hr.1 hr.2
        · cases hb
      · cases hG
    · cases hG
end Go.Proofs.YtalkkenkeilmpaaGreatDoor.G
