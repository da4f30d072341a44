/- Functions of Go's library as the evaluator's contracts: by the shelf's, proved once over any program. -/
import Derived.Test.YtalkkenkeilmpaaDoorEv16
import Derived.Test.YtalkkenkeilmpaaDoorProg
import Derived.Shelf.Strconv.Itoa3
import Derived.Shelf.Strings.OnBuilder
import Derived.Shelf.Strings.Prefix
import Derived.Shelf.Strconv.AtoiAll
import Derived.Lib.SmallJoins
import Derived.Shelf.Strings.Split
namespace Go.Proofs.YtalkkenkeilmpaaDoor.G
open Go Go.RowKit Go.Proofs Go.Proofs.YtalkkenkeilmpaaDoor.Ev Go.Shelf
set_option linter.unusedVariables false
set_option linter.unusedSimpArgs false
set_option maxRecDepth 100000
theorem grow_belowD {w : World} {k : Nat} {os : Array Obj} {w' : World} (h : w' = Sort.grow (w.drewN k) os) : BelowD w w' := by
  subst h
  exact ⟨⟨rfl, rfl, rfl, by simp [Sort.grow, World.drewN], fun b hb => by simp only [Sort.grow, World.drewN]; rw [Array.getElem?_append_left hb]⟩, Nat.le_refl _⟩
theorem ofBelow {w w' : World} (h : Below w.heap.size w w') : BelowD w w' := ⟨h, Nat.le_refl _⟩
/-- a contract of one string or number argument, from its raw form. -/
theorem one_arg {α : Type} {c : AC α} {ar : List AV} {a : α × Unit} (h : (lCons c lNil).dec ar = some a) {vs : Array Value} (hn : vs.size = ar.length) {w : World} {A : Nat → Prop} (hrep : ∀ (i : Nat) (v : Value) (y : AV), vs[i]? = some v → ar[i]? = some y → Rep w A v y) :
    ∃ v, vs = #[v] ∧ Rep w A v (c.enc a.1) := by
  obtain ⟨hlen, hval⟩ := (lCons c lNil).ok ar a h
  have h1 : ar.length = 1 := hlen
  have hvs : vs.size = 1 := hn.trans h1
  refine ⟨vs[0], ?_, hval 0 ar[0] (c.enc a.1) (by simp [h1]) rfl w A vs[0] (hrep 0 _ _ (by simp [hvs]) (by simp [h1]))⟩
  apply Array.ext_getElem?
  intro i
  match i with
  | 0 => simp [hvs]
  | i + 1 => simp [hvs]
theorem two_args {α β : Type} {c : AC α} {d : AC β} {ar : List AV} {a : α × β × Unit} (h : (lCons c (lCons d lNil)).dec ar = some a) {vs : Array Value} (hn : vs.size = ar.length) {w : World} {A : Nat → Prop} (hrep : ∀ (i : Nat) (v : Value) (y : AV), vs[i]? = some v → ar[i]? = some y → Rep w A v y) :
    ∃ v u, vs = #[v, u] ∧ Rep w A v (c.enc a.1) ∧ Rep w A u (d.enc a.2.1) := by
  obtain ⟨hlen, hval⟩ := (lCons c (lCons d lNil)).ok ar a h
  have h1 : ar.length = 2 := hlen
  have hvs : vs.size = 2 := hn.trans h1
  refine ⟨vs[0], vs[1], ?_, hval 0 ar[0] (c.enc a.1) (by simp [h1]) rfl w A vs[0] (hrep 0 _ _ (by simp [hvs]) (by simp [h1])), hval 1 ar[1] (d.enc a.2.1) (by simp [h1]) rfl w A vs[1] (hrep 1 _ _ (by simp [hvs]) (by simp [h1]))⟩
  apply Array.ext_getElem?
  intro i
  match i with
  | 0 => simp [hvs]
  | 1 => simp [hvs]
  | i + 2 => simp [hvs]
def layItoa_ren : Go.Shelf.Ren := ⟨fun | 129 => 75 | 171 => 18 | 243 => 32 | 246 => 47 | 283 => 58 | 284 => 59 | 285 => 60 | 286 => 61 | 317 => 74 | 318 => 76 | 319 => 77 | 320 => 78 | 337 => 87 | 338 => 88 | n => n, fun | 37 => 58 | 46 => 106 | 51 => 104 | 53 => 75 | 171 => 83 | 173 => 86 | 212 => 103 | 213 => 105 | 232 => 125 | 233 => 126 | n => n, fun | 17 => 0 | 18 => 6 | 19 => 7 | n => n⟩
theorem layItoa : LaysM.n171 Tryd.prog layItoa_ren where
  mixed := by kernel_rfl
  f129 := Tryd.func75.trans (congrArg some (by kernel_rfl))
  f171 := Tryd.func18.trans (congrArg some (by kernel_rfl))
  f243 := Tryd.func32.trans (congrArg some (by kernel_rfl))
  f246 := Tryd.func47.trans (congrArg some (by kernel_rfl))
  f283 := Tryd.func58.trans (congrArg some (by kernel_rfl))
  f284 := Tryd.func59.trans (congrArg some (by kernel_rfl))
  f285 := Tryd.func60.trans (congrArg some (by kernel_rfl))
  f286 := Tryd.func61.trans (congrArg some (by kernel_rfl))
  f317 := Tryd.func74.trans (congrArg some (by kernel_rfl))
  f318 := Tryd.func76.trans (congrArg some (by kernel_rfl))
  f319 := Tryd.func77.trans (congrArg some (by kernel_rfl))
  f320 := Tryd.func78.trans (congrArg some (by kernel_rfl))
  f337 := Tryd.func87.trans (congrArg some (by kernel_rfl))
  f338 := Tryd.func88.trans (congrArg some (by kernel_rfl))
  t0 := Tryd.underlying0
  a0 := Tryd.isAgg0
  z0 := Tryd.sizeOf0
  v0 := Tryd.zeroValue0
  t2 := Tryd.underlying2
  a2 := Tryd.isAgg2
  z2 := Tryd.sizeOf2
  v2 := Tryd.zeroValue2
  t3 := Tryd.underlying3
  a3 := Tryd.isAgg3
  z3 := Tryd.sizeOf3
  v3 := Tryd.zeroValue3
  t4 := Tryd.underlying4
  a4 := Tryd.isAgg4
  z4 := Tryd.sizeOf4
  v4 := Tryd.zeroValue4
  t5 := Tryd.underlying5
  a5 := Tryd.isAgg5
  z5 := Tryd.sizeOf5
  v5 := Tryd.zeroValue5
  t9 := Tryd.underlying9
  a9 := Tryd.isAgg9
  z9 := Tryd.sizeOf9
  v9 := Tryd.zeroValue9
  t20 := Tryd.underlying20
  a20 := Tryd.isAgg20
  z20 := Tryd.sizeOf20
  v20 := Tryd.zeroValue20
  t37 := Tryd.underlying58
  a37 := Tryd.isAgg58
  z37 := Tryd.sizeOf58
  v37 := Tryd.zeroValue58
  t46 := Tryd.underlying106
  a46 := Tryd.isAgg106
  z46 := Tryd.sizeOf106
  v46 := Tryd.zeroValue106
  t51 := Tryd.underlying104
  a51 := Tryd.isAgg104
  z51 := Tryd.sizeOf104
  v51 := Tryd.zeroValue104
  t53 := Tryd.underlying75
  a53 := Tryd.isAgg75
  z53 := Tryd.sizeOf75
  v53 := Tryd.zeroValue75
  t171 := Tryd.underlying83
  a171 := Tryd.isAgg83
  z171 := Tryd.sizeOf83
  v171 := Tryd.zeroValue83
  t173 := Tryd.underlying86
  a173 := Tryd.isAgg86
  z173 := Tryd.sizeOf86
  v173 := Tryd.zeroValue86
  t212 := Tryd.underlying103
  a212 := Tryd.isAgg103
  z212 := Tryd.sizeOf103
  v212 := Tryd.zeroValue103
  t213 := Tryd.underlying105
  a213 := Tryd.isAgg105
  z213 := Tryd.sizeOf105
  t232 := Tryd.underlying125
  a232 := Tryd.isAgg125
  z232 := Tryd.sizeOf125
  v232 := Tryd.zeroValue125
  t233 := Tryd.underlying126
  a233 := Tryd.isAgg126
  z233 := Tryd.sizeOf126
  v233 := Tryd.zeroValue126
  g17 := by kernel_rfl
  g18 := by kernel_rfl
  g19 := by kernel_rfl
  i0 := by kernel_rfl
  i2 := by kernel_rfl
  i3 := by kernel_rfl
  i4 := by kernel_rfl
  i5 := by kernel_rfl
  i9 := by kernel_rfl
  i20 := by kernel_rfl
  i37 := by kernel_rfl
  i46 := by kernel_rfl
  i51 := by kernel_rfl
  i53 := by kernel_rfl
  i171 := by kernel_rfl
  i173 := by kernel_rfl
  i212 := by kernel_rfl
  i232 := by kernel_rfl
  i233 := by kernel_rfl
  m17 := by kernel_rfl
  m18 := by kernel_rfl
  m19 := by kernel_rfl
theorem tab_pow10 {w : World} (h : TabOk w) : Lib.TabIs Tryd.prog w "internal/strconv.uint64pow10" .u64 Lib.pow10Tab := by
  obtain ⟨c, t, s, h1, h2⟩ := h _ (List.mem_cons_self)
  have hg : (Tryd.prog.globalNamed "internal/strconv.uint64pow10") = some 0 := layItoa.m17
  unfold Lib.TabIs World.var?
  rw [hg]
  simp only [Option.bind_some, h1]
  rw [show c = _ from h2]
  rfl
noncomputable def strconv_Itoa.f (k : Nat) (n : Int) : Option ByteArray := if -9223372036854775808 ≤ n ∧ n ≤ 9223372036854775807 then some ⟨(Lib.itoa n).toArray⟩ else none
noncomputable def strconv_Itoa.e (k : Nat) : FE := { α := Int × Unit, β := ByteArray, args := lCons (aI .i64) lNil, ret := rOne aStr, f := fun p => strconv_Itoa.f k p.1 }
theorem strconv_Itoa.okW (k : Nat) : Fun Tryd.prog 18 (strconv_Itoa.e k).G where
  can := by kernel_rfl
  runs := fun ar rt hG vs w A htab hA hn hrep => by
    unfold FE.G at hG
    split at hG
    · rename_i p hp
      split at hG
      · rename_i b hb
        cases hG
        obtain ⟨v, rfl, hv⟩ := one_arg hp hn hrep
        have hv := rep_v_inv (show Rep w A v (.v (.int .i64 p.1)) from hv)
        subst hv
        have hb : (if -9223372036854775808 ≤ p.1 ∧ p.1 ≤ 9223372036854775807 then some (⟨(Lib.itoa p.1).toArray⟩ : ByteArray) else none) = some b := hb
        split at hb
        · rename_i hr
          cases hb
          have c : Calls Tryd.prog 18 #[.int .i64 p.1] w _ := Any.strconv_Itoa layItoa p.1 hr.1 hr.2 w (tab_pow10 htab)
          exact c.mono fun e w' ⟨he, j, os, hw⟩ => ⟨_, he, grow_belowD hw, .v _⟩
        · cases hb
      · cases hG
    · cases hG
def layJoin_ren : Go.Shelf.Ren := ⟨fun | 156 => 19 | 165 => 33 | 166 => 34 | 169 => 35 | 240 => 48 | 241 => 49 | 276 => 62 | 277 => 63 | n => n, fun | 31 => 40 | 37 => 58 | 70 => 57 | 72 => 60 | 75 => 63 | 76 => 64 | 80 => 66 | 127 => 78 | 164 => 88 | n => n, fun n => n⟩
theorem layJoin : Lays.n156 Tryd.prog layJoin_ren where
  mixed := by kernel_rfl
  f156 := Tryd.func19.trans (congrArg some (by kernel_rfl))
  f165 := Tryd.func33.trans (congrArg some (by kernel_rfl))
  f166 := Tryd.func34.trans (congrArg some (by kernel_rfl))
  f169 := Tryd.func35.trans (congrArg some (by kernel_rfl))
  f240 := Tryd.func48.trans (congrArg some (by kernel_rfl))
  f241 := Tryd.func49.trans (congrArg some (by kernel_rfl))
  f276 := Tryd.func62.trans (congrArg some (by kernel_rfl))
  f277 := Tryd.func63.trans (congrArg some (by kernel_rfl))
  t0 := Tryd.underlying0
  a0 := Tryd.isAgg0
  z0 := Tryd.sizeOf0
  v0 := Tryd.zeroValue0
  t3 := Tryd.underlying3
  a3 := Tryd.isAgg3
  z3 := Tryd.sizeOf3
  v3 := Tryd.zeroValue3
  t4 := Tryd.underlying4
  a4 := Tryd.isAgg4
  z4 := Tryd.sizeOf4
  v4 := Tryd.zeroValue4
  t9 := Tryd.underlying9
  a9 := Tryd.isAgg9
  z9 := Tryd.sizeOf9
  v9 := Tryd.zeroValue9
  t20 := Tryd.underlying20
  a20 := Tryd.isAgg20
  z20 := Tryd.sizeOf20
  v20 := Tryd.zeroValue20
  t31 := Tryd.underlying40
  a31 := Tryd.isAgg40
  z31 := Tryd.sizeOf40
  v31 := Tryd.zeroValue40
  t37 := Tryd.underlying58
  a37 := Tryd.isAgg58
  z37 := Tryd.sizeOf58
  v37 := Tryd.zeroValue58
  t70 := Tryd.underlying57
  a70 := Tryd.isAgg57
  z70 := Tryd.sizeOf57
  v70 := Tryd.zeroValue57
  t72 := Tryd.underlying60
  a72 := Tryd.isAgg60
  z72 := Tryd.sizeOf60
  v72 := Tryd.zeroValue60
  t75 := Tryd.underlying63
  a75 := Tryd.isAgg63
  z75 := Tryd.sizeOf63
  v75 := Tryd.zeroValue63
  t76 := Tryd.underlying64
  a76 := Tryd.isAgg64
  z76 := Tryd.sizeOf64
  v76 := Tryd.zeroValue64
  t127 := Tryd.underlying78
  a127 := Tryd.isAgg78
  z127 := Tryd.sizeOf78
  v127 := Tryd.zeroValue78
  t164 := Tryd.underlying88
  a164 := Tryd.isAgg88
  z164 := Tryd.sizeOf88
  v164 := Tryd.zeroValue88
theorem extraJoin : Builder.Extra Tryd.prog layJoin_ren where
  sizeBuilder := by kernel_rfl
  liesBuilder := by kernel_rfl
  t5 := Tryd.underlying5
  a5 := Tryd.isAgg5
  z5 := Tryd.sizeOf5
  v5 := Tryd.zeroValue5
  infoByte := by kernel_rfl
  cellsByte := by kernel_rfl
  sizeByte := by kernel_rfl
  neB5 := by decide
def joinB (l : List ByteArray) (sep : ByteArray) : ByteArray := ⟨(Lib.join (l.map (·.data.toList)) sep.data.toList).toArray⟩
noncomputable def strings_Join.f (k : Nat) (l : List ByteArray) (sep : ByteArray) : Option ByteArray := if l.length ≤ 140737488355328 ∧ (Lib.join (l.map (·.data.toList)) sep.data.toList).length ≤ 140737488355328 then some (joinB l sep) else none
noncomputable def strings_Join.e (k : Nat) : FE := { α := List ByteArray × ByteArray × Unit, β := ByteArray, args := lCons (aSl .str) (lCons aStr lNil), ret := rOne aStr, f := fun p => strings_Join.f k p.1 p.2.1 }
theorem strings_Join.okW (k : Nat) : Fun Tryd.prog 19 (strings_Join.e k).G where
  can := by kernel_rfl
  runs := fun ar rt hG vs w A htab hA hn hrep => by
    unfold FE.G at hG
    split at hG
    · rename_i p hp
      split at hG
      · rename_i b hb
        cases hG
        obtain ⟨v, u, rfl, hv, hu⟩ := two_args hp hn hrep
        have hu := rep_v_inv (show Rep w A u (.v (.string p.2.1)) from hu)
        subst hu
        have hv : Rep w A v (.sl .str p.1) := hv
        have hb : (if p.1.length ≤ 140737488355328 ∧ (Lib.join (p.1.map (·.data.toList)) p.2.1.data.toList).length ≤ 140737488355328 then some (joinB p.1 p.2.1) else none) = some b := hb
        split at hb
        · rename_i hr
          cases hb
          generalize hl : p.1 = l at hv hr ⊢
          generalize hs : p.2.1 = sep at hr ⊢
          have key : Calls Tryd.prog 19 #[v, .string sep] w fun e w' => e = .returned (.string (joinB l sep)) ∧ Below w.heap.size w w' := by
            have hvi : ∃ B c, v = .slice B l.length c ∧ l.length ≤ c ∧ ∀ j (h : j < l.length), ∃ a, B = some a ∧ a.spot = none ∧ a.block < w.heap.size ∧ w.cell? ⟨a.block, a.off + j, none⟩ = some (.string l[j]) := by
              generalize hq : l = q at hv
              cases hv with
              | sl B cap _ _ vals hcap hnil hA' hR =>
                refine ⟨B, cap, rfl, hcap, fun j hj => ?_⟩
                obtain ⟨a, h1, h2, h3, h4⟩ := hA' j hj
                refine ⟨a, h1, h2, hA _ h3, ?_⟩
                have h5 := h4 0 Nat.zero_lt_one
                have h6 := rep_v_inv (show Rep w A (vals j 0) (.v (.string (q.getD j default))) from hR j 0 hj Nat.zero_lt_one)
                rw [show El.str.z = 1 from rfl, Nat.mul_one, Nat.add_zero] at h5
                rw [h5, h6]
                simp [List.getD_eq_getElem?_getD, hj]
            obtain ⟨B, c, rfl, hc, hcell⟩ := hvi
            by_cases h0 : l.length = 0
            · have : l = [] := List.eq_nil_of_length_eq_zero h0
              subst this
              exact (Any.strings_Join_none layJoin extraJoin B c sep w).mono fun e w' ⟨he, hw⟩ => ⟨he, hw ▸ Below.refl _ _⟩
            · obtain ⟨a, rfl, h2, h3, _⟩ := hcell 0 (by omega)
              obtain ⟨bk, o, sp⟩ := a
              have h2 : sp = none := h2
              subst h2
              exact Any.strings_Join layJoin extraJoin bk o c l sep w (fun j x hx => by
                obtain ⟨hj, rfl⟩ := List.getElem?_eq_some_iff.1 hx
                obtain ⟨a, e, _, _, h⟩ := hcell j hj
                cases e
                exact h) h3 hr.1 hc hr.2
          exact key.mono fun e w' ⟨he, hw⟩ => ⟨_, he, ofBelow hw, .v _⟩
        · cases hb
      · cases hG
    · cases hG
def layTrim_ren : Go.Shelf.Ren := ⟨fun | 101 => 42 | 206 => 73 | 208 => 57 | n => n, fun n => n, fun n => n⟩
theorem layTrim : Lays.n101 Tryd.prog layTrim_ren where
  mixed := by kernel_rfl
  f101 := Tryd.func42.trans (congrArg some (by kernel_rfl))
  f206 := Tryd.func73.trans (congrArg some (by kernel_rfl))
  f208 := Tryd.func57.trans (congrArg some (by kernel_rfl))
  t3 := Tryd.underlying3
  a3 := Tryd.isAgg3
  z3 := Tryd.sizeOf3
  v3 := Tryd.zeroValue3
  t4 := Tryd.underlying4
  a4 := Tryd.isAgg4
  z4 := Tryd.sizeOf4
  v4 := Tryd.zeroValue4
  t9 := Tryd.underlying9
  a9 := Tryd.isAgg9
  z9 := Tryd.sizeOf9
  v9 := Tryd.zeroValue9
noncomputable def strings_TrimPrefix.f (k : Nat) (s p : ByteArray) : Option ByteArray := some ⟨(Lib.trimPrefix s.data.toList p.data.toList).toArray⟩
noncomputable def strings_TrimPrefix.e (k : Nat) : FE := { α := ByteArray × ByteArray × Unit, β := ByteArray, args := lCons aStr (lCons aStr lNil), ret := rOne aStr, f := fun p => strings_TrimPrefix.f k p.1 p.2.1 }
theorem strings_TrimPrefix.okW (k : Nat) : Fun Tryd.prog 42 (strings_TrimPrefix.e k).G where
  can := by kernel_rfl
  runs := fun ar rt hG vs w A htab hA hn hrep => by
    unfold FE.G at hG
    split at hG
    · rename_i p hp
      split at hG
      · rename_i b hb
        cases hG
        obtain ⟨v, u, rfl, hv, hu⟩ := two_args hp hn hrep
        have hu := rep_v_inv (show Rep w A u (.v (.string p.2.1)) from hu)
        have hv := rep_v_inv (show Rep w A v (.v (.string p.1)) from hv)
        subst hu hv
        have hb : some (⟨(Lib.trimPrefix p.1.data.toList p.2.1.data.toList).toArray⟩ : ByteArray) = some b := hb
        cases hb
        have c : Calls Tryd.prog 42 #[.string p.1, .string p.2.1] w _ := Any.strings_TrimPrefix layTrim p.1 p.2.1 w
        exact c.mono fun e w' ⟨he, hw⟩ => ⟨_, he, hw ▸ ofBelow (Below.refl _ _), .v _⟩
      · cases hG
    · cases hG
def layAtoi_ren : Go.Shelf.Ren := ⟨fun | 129 => 75 | 171 => 18 | 172 => 41 | 205 => 86 | 243 => 32 | 244 => 55 | 245 => 56 | 246 => 47 | 247 => 68 | 279 => 69 | 280 => 70 | 281 => 71 | 282 => 72 | 283 => 58 | 284 => 59 | 285 => 60 | 286 => 61 | 287 => 84 | 316 => 85 | 317 => 74 | 318 => 76 | 319 => 77 | 320 => 78 | 321 => 91 | 322 => 92 | 337 => 87 | 338 => 88 | n => n, fun | 37 => 58 | 46 => 106 | 51 => 104 | 53 => 75 | 75 => 63 | 76 => 64 | 80 => 66 | 85 => 96 | 127 => 78 | 143 => 122 | 145 => 124 | 167 => 95 | 168 => 98 | 171 => 83 | 173 => 86 | 175 => 108 | 210 => 112 | 212 => 103 | 213 => 105 | 232 => 125 | 233 => 126 | n => n, fun | 15 => 2 | 16 => 3 | 17 => 0 | 18 => 6 | 19 => 7 | n => n⟩
theorem layAtoi : LaysC.n172 Tryd.prog layAtoi_ren where
  mixed := by kernel_rfl
  f129 := Tryd.func75.trans (congrArg some (by kernel_rfl))
  f171 := Tryd.func18.trans (congrArg some (by kernel_rfl))
  f172 := Tryd.func41.trans (congrArg some (by kernel_rfl))
  f205 := Tryd.func86.trans (congrArg some (by kernel_rfl))
  f243 := Tryd.func32.trans (congrArg some (by kernel_rfl))
  f244 := Tryd.func55.trans (congrArg some (by kernel_rfl))
  f245 := Tryd.func56.trans (congrArg some (by kernel_rfl))
  f246 := Tryd.func47.trans (congrArg some (by kernel_rfl))
  f247 := Tryd.func68.trans (congrArg some (by kernel_rfl))
  f279 := Tryd.func69.trans (congrArg some (by kernel_rfl))
  f280 := Tryd.func70.trans (congrArg some (by kernel_rfl))
  f281 := Tryd.func71.trans (congrArg some (by kernel_rfl))
  f282 := Tryd.func72.trans (congrArg some (by kernel_rfl))
  f283 := Tryd.func58.trans (congrArg some (by kernel_rfl))
  f284 := Tryd.func59.trans (congrArg some (by kernel_rfl))
  f285 := Tryd.func60.trans (congrArg some (by kernel_rfl))
  f286 := Tryd.func61.trans (congrArg some (by kernel_rfl))
  f287 := Tryd.func84.trans (congrArg some (by kernel_rfl))
  f316 := Tryd.func85.trans (congrArg some (by kernel_rfl))
  f317 := Tryd.func74.trans (congrArg some (by kernel_rfl))
  f318 := Tryd.func76.trans (congrArg some (by kernel_rfl))
  f319 := Tryd.func77.trans (congrArg some (by kernel_rfl))
  f320 := Tryd.func78.trans (congrArg some (by kernel_rfl))
  f321 := Tryd.func91.trans (congrArg some (by kernel_rfl))
  f322 := Tryd.func92.trans (congrArg some (by kernel_rfl))
  f337 := Tryd.func87.trans (congrArg some (by kernel_rfl))
  f338 := Tryd.func88.trans (congrArg some (by kernel_rfl))
  t0 := Tryd.underlying0
  a0 := Tryd.isAgg0
  z0 := Tryd.sizeOf0
  v0 := Tryd.zeroValue0
  t2 := Tryd.underlying2
  a2 := Tryd.isAgg2
  z2 := Tryd.sizeOf2
  v2 := Tryd.zeroValue2
  t3 := Tryd.underlying3
  a3 := Tryd.isAgg3
  z3 := Tryd.sizeOf3
  v3 := Tryd.zeroValue3
  t4 := Tryd.underlying4
  a4 := Tryd.isAgg4
  z4 := Tryd.sizeOf4
  v4 := Tryd.zeroValue4
  t5 := Tryd.underlying5
  a5 := Tryd.isAgg5
  z5 := Tryd.sizeOf5
  v5 := Tryd.zeroValue5
  t9 := Tryd.underlying9
  a9 := Tryd.isAgg9
  z9 := Tryd.sizeOf9
  v9 := Tryd.zeroValue9
  t20 := Tryd.underlying20
  a20 := Tryd.isAgg20
  z20 := Tryd.sizeOf20
  v20 := Tryd.zeroValue20
  t21 := Tryd.underlying21
  a21 := Tryd.isAgg21
  z21 := Tryd.sizeOf21
  v21 := Tryd.zeroValue21
  t37 := Tryd.underlying58
  a37 := Tryd.isAgg58
  z37 := Tryd.sizeOf58
  v37 := Tryd.zeroValue58
  t46 := Tryd.underlying106
  a46 := Tryd.isAgg106
  z46 := Tryd.sizeOf106
  v46 := Tryd.zeroValue106
  t51 := Tryd.underlying104
  a51 := Tryd.isAgg104
  z51 := Tryd.sizeOf104
  v51 := Tryd.zeroValue104
  t53 := Tryd.underlying75
  a53 := Tryd.isAgg75
  z53 := Tryd.sizeOf75
  v53 := Tryd.zeroValue75
  t75 := Tryd.underlying63
  a75 := Tryd.isAgg63
  z75 := Tryd.sizeOf63
  v75 := Tryd.zeroValue63
  t76 := Tryd.underlying64
  a76 := Tryd.isAgg64
  z76 := Tryd.sizeOf64
  v76 := Tryd.zeroValue64
  t85 := Tryd.underlying96
  a85 := Tryd.isAgg96
  z85 := Tryd.sizeOf96
  v85 := Tryd.zeroValue96
  t127 := Tryd.underlying78
  a127 := Tryd.isAgg78
  z127 := Tryd.sizeOf78
  v127 := Tryd.zeroValue78
  t143 := Tryd.underlying122
  a143 := Tryd.isAgg122
  z143 := Tryd.sizeOf122
  v143 := Tryd.zeroValue122
  t145 := Tryd.underlying124
  a145 := Tryd.isAgg124
  z145 := Tryd.sizeOf124
  v145 := Tryd.zeroValue124
  t167 := Tryd.underlying95
  a167 := Tryd.isAgg95
  z167 := Tryd.sizeOf95
  v167 := Tryd.zeroValue95
  t168 := Tryd.underlying98
  a168 := Tryd.isAgg98
  z168 := Tryd.sizeOf98
  v168 := Tryd.zeroValue98
  t171 := Tryd.underlying83
  a171 := Tryd.isAgg83
  z171 := Tryd.sizeOf83
  v171 := Tryd.zeroValue83
  t173 := Tryd.underlying86
  a173 := Tryd.isAgg86
  z173 := Tryd.sizeOf86
  v173 := Tryd.zeroValue86
  t175 := Tryd.underlying108
  a175 := Tryd.isAgg108
  z175 := Tryd.sizeOf108
  v175 := Tryd.zeroValue108
  t210 := Tryd.underlying112
  a210 := Tryd.isAgg112
  z210 := Tryd.sizeOf112
  v210 := Tryd.zeroValue112
  t212 := Tryd.underlying103
  a212 := Tryd.isAgg103
  z212 := Tryd.sizeOf103
  v212 := Tryd.zeroValue103
  t213 := Tryd.underlying105
  a213 := Tryd.isAgg105
  z213 := Tryd.sizeOf105
  t232 := Tryd.underlying125
  a232 := Tryd.isAgg125
  z232 := Tryd.sizeOf125
  v232 := Tryd.zeroValue125
  t233 := Tryd.underlying126
  a233 := Tryd.isAgg126
  z233 := Tryd.sizeOf126
  v233 := Tryd.zeroValue126
  g15 := by kernel_rfl
  g16 := by kernel_rfl
  g17 := by kernel_rfl
  g18 := by kernel_rfl
  g19 := by kernel_rfl
  t80 := Tryd.underlying66
  a80 := Tryd.isAgg66
  z80 := Tryd.sizeOf66
  v80 := Tryd.zeroValue66
  i0 := by kernel_rfl
  i2 := by kernel_rfl
  i3 := by kernel_rfl
  i4 := by kernel_rfl
  i5 := by kernel_rfl
  i9 := by kernel_rfl
  i20 := by kernel_rfl
  i21 := by kernel_rfl
  i37 := by kernel_rfl
  i46 := by kernel_rfl
  i51 := by kernel_rfl
  i53 := by kernel_rfl
  i75 := by kernel_rfl
  i76 := by kernel_rfl
  i80 := by kernel_rfl
  i85 := by kernel_rfl
  i127 := by kernel_rfl
  i143 := by kernel_rfl
  i145 := by kernel_rfl
  i167 := by kernel_rfl
  i168 := by kernel_rfl
  i171 := by kernel_rfl
  i173 := by kernel_rfl
  i175 := by kernel_rfl
  i210 := by kernel_rfl
  i212 := by kernel_rfl
  i232 := by kernel_rfl
  i233 := by kernel_rfl
  m15 := by kernel_rfl
  m16 := by kernel_rfl
  m17 := by kernel_rfl
  m18 := by kernel_rfl
  m19 := by kernel_rfl
  c0 := by kernel_rfl
  c2 := by kernel_rfl
  c3 := by kernel_rfl
  c4 := by kernel_rfl
  c5 := by kernel_rfl
  c9 := by kernel_rfl
  c20 := by kernel_rfl
  c21 := by kernel_rfl
  c37 := by kernel_rfl
  c46 := by kernel_rfl
  c51 := by kernel_rfl
  c53 := by kernel_rfl
  c75 := by kernel_rfl
  c76 := by kernel_rfl
  c80 := by kernel_rfl
  c85 := by kernel_rfl
  c127 := by kernel_rfl
  c143 := by kernel_rfl
  c145 := by kernel_rfl
  c167 := by kernel_rfl
  c168 := by kernel_rfl
  c171 := by kernel_rfl
  c173 := by kernel_rfl
  c175 := by kernel_rfl
  c210 := by kernel_rfl
  c212 := by kernel_rfl
  c213 := by kernel_rfl
  c232 := by kernel_rfl
  c233 := by kernel_rfl
theorem tab_err {w : World} (h : TabOk w) {g : Nat} (hg : ∃ x ∈ tabs, x.1 = g ∧ ∀ c, x.2 c → ∃ ev, c[0]? = some ev ∧ (ev = .nilIface ∨ ∃ te pe, ev = .iface te pe)) : ∃ ev, w.cell? ⟨g, 0, none⟩ = some ev ∧ (ev = .nilIface ∨ ∃ te pe, ev = .iface te pe) := by
  obtain ⟨x, hx, rfl, hc⟩ := hg
  obtain ⟨c, t, s, h1, h2⟩ := h x hx
  obtain ⟨ev, h3, h4⟩ := hc c h2
  refine ⟨ev, ?_, h4⟩
  have : 0 < c.size := (Array.getElem?_eq_some_iff.1 h3).1
  simp [World.cell?, h1, h3]
noncomputable def strconv_Atoi.f (k : Nat) (s : ByteArray) : Option (Int × Bool × Unit) := if s.size ≤ 281474976710656 then some (match Lib.atoiAll s.data.toList with | .ok v => (v, false, ()) | .range => (Lib.atoiSat s.data.toList, true, ()) | _ => (0, true, ())) else none
noncomputable def strconv_Atoi.e (k : Nat) : FE := { α := ByteArray × Unit, β := Int × Bool × Unit, args := lCons aStr lNil, ret := rMany (lCons (aI .i64) (lCons aEr lNil)), f := fun p => strconv_Atoi.f k p.1 }
theorem ret2 {w w' : World} {A : Nat → Prop} {n : Int} {b : Bool} {ev : Value} (h : Rep w' (fresh w w' A) ev (.er b)) : RetRep w w' A (.tuple #[.int .i64 n, ev]) (.many [.v (.int .i64 n), .er b]) := by
  refine ⟨_, rfl, rfl, fun i u y h1 h2 => ?_⟩
  match i with
  | 0 => simp at h1 h2; subst h1 h2; exact .v _
  | 1 => simp at h1 h2; subst h1 h2; exact h
  | i + 2 => simp at h1
theorem strconv_Atoi.okW (k : Nat) : Fun Tryd.prog 41 (strconv_Atoi.e k).G where
  can := by kernel_rfl
  runs := fun ar rt hG vs w A htab hA hn hrep => by
    unfold FE.G at hG
    split at hG
    · rename_i p hp
      split at hG
      · rename_i b hb
        cases hG
        obtain ⟨v, rfl, hv⟩ := one_arg hp hn hrep
        have hv := rep_v_inv (show Rep w A v (.v (.string p.1)) from hv)
        subst hv
        have hb : (if p.1.size ≤ 281474976710656 then some (match Lib.atoiAll p.1.data.toList with | .ok v => (v, false, ()) | .range => (Lib.atoiSat p.1.data.toList, true, ()) | _ => (0, true, ())) else none) = some b := hb
        split at hb
        · rename_i hr
          obtain ⟨e1, c1, c2⟩ := tab_err htab (g := layAtoi_ren.g 15) ⟨tabs[2]'(by decide), List.getElem_mem _, rfl, fun c h => h⟩
          obtain ⟨e2, c3, c4⟩ := tab_err htab (g := layAtoi_ren.g 16) ⟨tabs[3]'(by decide), List.getElem_mem _, rfl, fun c h => h⟩
          have hb := Option.some.inj hb
          cases hq : Lib.atoiAll p.1.data.toList
          · rename_i v
            rw [hq] at hb
            simp only at hb
            subst hb
            have c : Calls Tryd.prog 41 #[.string p.1] w _ := Any.strconv_Atoi_ok layAtoi p.1 (by omega) v hq w
            refine c.mono fun e w' ⟨he, hw⟩ => ⟨_, he, ?_, ret2 (.er _ false (.inl ⟨rfl, rfl⟩))⟩
            rcases hw with rfl | ⟨t, rfl⟩
            · exact ofBelow (Below.refl _ _)
            · exact ofBelow (Go.Joins.below_bytesWorld w.heap.size w _ t (Nat.le_refl _))
          · rw [hq] at hb
            simp only at hb
            subst hb
            have c : Calls Tryd.prog 41 #[.string p.1] w _ := Any.strconv_Atoi_syntax layAtoi p.1 hr hq e1 w c1 c2
            exact c.mono fun e w' ⟨N, he, _, _, hw⟩ => ⟨_, he, ofBelow hw, ret2 (.er _ true (.inr ⟨rfl, _, _, rfl⟩))⟩
          · rw [hq] at hb
            simp only at hb
            subst hb
            have c : Calls Tryd.prog 41 #[.string p.1] w _ := Any.strconv_Atoi_range layAtoi p.1 hr hq e2 w c3 c4
            exact c.mono fun e w' ⟨N, he, _, _, hw⟩ => ⟨_, he, ofBelow hw, ret2 (.er _ true (.inr ⟨rfl, _, _, rfl⟩))⟩
        · cases hb
      · cases hG
    · cases hG
def laySplit_ren : Go.Shelf.Ren := ⟨fun | 138 => 53 | 143 => 54 | 146 => 24 | 195 => 64 | 197 => 65 | 217 => 80 | 218 => 66 | 219 => 67 | 221 => 40 | 224 => 82 | 225 => 81 | 260 => 79 | 266 => 89 | 267 => 83 | 268 => 52 | 314 => 90 | n => n, fun | 31 => 40 | 46 => 106 | 51 => 104 | 105 => 92 | 119 => 115 | 138 => 117 | 139 => 118 | 146 => 119 | n => n, fun | 3 => 4 | 4 => 5 | n => n⟩
theorem laySplit : Lays.n146 Tryd.prog laySplit_ren where
  mixed := by kernel_rfl
  f138 := Tryd.func53.trans (congrArg some (by kernel_rfl))
  f143 := Tryd.func54.trans (congrArg some (by kernel_rfl))
  f146 := Tryd.func24.trans (congrArg some (by kernel_rfl))
  f195 := Tryd.func64.trans (congrArg some (by kernel_rfl))
  f197 := Tryd.func65.trans (congrArg some (by kernel_rfl))
  f217 := Tryd.func80.trans (congrArg some (by kernel_rfl))
  f218 := Tryd.func66.trans (congrArg some (by kernel_rfl))
  f219 := Tryd.func67.trans (congrArg some (by kernel_rfl))
  f221 := Tryd.func40.trans (congrArg some (by kernel_rfl))
  f224 := Tryd.func82.trans (congrArg some (by kernel_rfl))
  f225 := Tryd.func81.trans (congrArg some (by kernel_rfl))
  f260 := Tryd.func79.trans (congrArg some (by kernel_rfl))
  f266 := Tryd.func89.trans (congrArg some (by kernel_rfl))
  f267 := Tryd.func83.trans (congrArg some (by kernel_rfl))
  f268 := Tryd.func52.trans (congrArg some (by kernel_rfl))
  f314 := Tryd.func90.trans (congrArg some (by kernel_rfl))
  t0 := Tryd.underlying0
  a0 := Tryd.isAgg0
  z0 := Tryd.sizeOf0
  v0 := Tryd.zeroValue0
  t3 := Tryd.underlying3
  a3 := Tryd.isAgg3
  z3 := Tryd.sizeOf3
  v3 := Tryd.zeroValue3
  t4 := Tryd.underlying4
  a4 := Tryd.isAgg4
  z4 := Tryd.sizeOf4
  v4 := Tryd.zeroValue4
  t5 := Tryd.underlying5
  a5 := Tryd.isAgg5
  z5 := Tryd.sizeOf5
  v5 := Tryd.zeroValue5
  t9 := Tryd.underlying9
  a9 := Tryd.isAgg9
  z9 := Tryd.sizeOf9
  v9 := Tryd.zeroValue9
  t21 := Tryd.underlying21
  a21 := Tryd.isAgg21
  z21 := Tryd.sizeOf21
  v21 := Tryd.zeroValue21
  t31 := Tryd.underlying40
  a31 := Tryd.isAgg40
  z31 := Tryd.sizeOf40
  v31 := Tryd.zeroValue40
  t46 := Tryd.underlying106
  a46 := Tryd.isAgg106
  z46 := Tryd.sizeOf106
  v46 := Tryd.zeroValue106
  t51 := Tryd.underlying104
  a51 := Tryd.isAgg104
  z51 := Tryd.sizeOf104
  v51 := Tryd.zeroValue104
  t105 := Tryd.underlying92
  a105 := Tryd.isAgg92
  z105 := Tryd.sizeOf92
  v105 := Tryd.zeroValue92
  t119 := Tryd.underlying115
  a119 := Tryd.isAgg115
  z119 := Tryd.sizeOf115
  t138 := Tryd.underlying117
  a138 := Tryd.isAgg117
  z138 := Tryd.sizeOf117
  v138 := Tryd.zeroValue117
  t139 := Tryd.underlying118
  a139 := Tryd.isAgg118
  z139 := Tryd.sizeOf118
  v139 := Tryd.zeroValue118
  t146 := Tryd.underlying119
  a146 := Tryd.isAgg119
  z146 := Tryd.sizeOf119
  v146 := Tryd.zeroValue119
  g1 := by kernel_rfl
  g3 := by kernel_rfl
  g4 := by kernel_rfl
theorem tab_int {w : World} (h : TabOk w) {g : Nat} (hg : ∃ x ∈ tabs, x.1 = g ∧ ∀ c, x.2 c → ∃ m, c[0]? = some (.int .i64 m)) : ∃ m, w.cell? ⟨g, 0, none⟩ = some (.int .i64 m) := by
  obtain ⟨x, hx, rfl, hc⟩ := hg
  obtain ⟨c, t, s, h1, h2⟩ := h x hx
  obtain ⟨m, h3⟩ := hc c h2
  refine ⟨m, ?_⟩
  have : 0 < c.size := (Array.getElem?_eq_some_iff.1 h3).1
  simp [World.cell?, h1, h3]
theorem split_key {w : World} (htab : TabOk w) {A : Nat → Prop} (s p : ByteArray) (h1 : s.size < 4294967281) (h2 : 1 ≤ p.size) : Calls Tryd.prog 24 #[.string s, .string p] w fun e w' => ∃ v, e = .returned v ∧ BelowD w w' ∧ RetRep w w' A v (.own 9 .str (Lib.splitB p 0 (Lib.countB s p) s)) := by
  obtain ⟨m, hm⟩ := tab_int htab (g := laySplit_ren.g 1) ⟨tabs[1]'(by decide), List.getElem_mem _, rfl, fun c h => h⟩
  have hlen : (Lib.splitB p 0 (Lib.countB s p) s).length = Lib.countB s p + 1 := Lib.splitB_all p h2 0 _ s rfl
  have c : Calls Tryd.prog 24 #[.string s, .string p] w _ := Any.strings_Split laySplit (by kernel_rfl) s p m w h1 hm h2
  have hmx := Lib.countB_le p h2 s.size s (Nat.le_refl _)
  generalize Lib.splitB p 0 (Lib.countB s p) s = b at hlen c
  refine c.mono fun e w' ⟨he, hw⟩ => ⟨_, he, ?_, (b.map Value.string), ?_, fun j q hj hq => ?_⟩
  · rw [hw]; exact ofBelow ⟨rfl, rfl, rfl, by rw [al_size]; omega, fun i hi => Below.heap_alloc w _ i hi⟩
  · rw [← hlen, hw]
    have := ownsW_lit (base := w.heap.size) (e := 9) (size := 1) w (b.map Value.string).toArray b.length (Nat.le_refl _) (maxLen_ge (by rw [hlen]; omega)) (by simp)
    rw [show laySplit_ren.t 9 = 9 from rfl, show El.str.z = 1 from rfl]
    simpa using this
  · have hq0 : q = 0 := by have : q < 1 := hq; omega
    subst hq0
    refine ⟨.string b[j], by rw [show El.str.z = 1 from rfl, Nat.mul_one, Nat.add_zero]; simp [hj], ?_⟩
    have e : El.cell .str (b.getD j default) 0 = .v (.string b[j]) := by simp [El.cell, List.getD_eq_getElem?_getD, hj]
    rw [e]; exact .v _
noncomputable def strings_Split.f (k : Nat) (s p : ByteArray) : Option (List ByteArray) := if s.size < 4294967281 ∧ 1 ≤ p.size then some (Lib.splitB p 0 (Lib.countB s p) s) else none
noncomputable def strings_Split.e (k : Nat) : FE := { α := ByteArray × ByteArray × Unit, β := List ByteArray, args := lCons aStr (lCons aStr lNil), ret := rOwn 9 .str, f := fun p => strings_Split.f k p.1 p.2.1 }
theorem strings_Split.okW (k : Nat) : Fun Tryd.prog 24 (strings_Split.e k).G where
  can := by kernel_rfl
  runs := fun ar rt hG vs w A htab hA hn hrep => by
    unfold FE.G at hG
    split at hG
    · rename_i p hp
      split at hG
      · rename_i b hb
        cases hG
        obtain ⟨v, u, rfl, hv, hu⟩ := two_args hp hn hrep
        have hu := rep_v_inv (show Rep w A u (.v (.string p.2.1)) from hu)
        have hv := rep_v_inv (show Rep w A v (.v (.string p.1)) from hv)
        subst hu hv
        have hb : (if p.1.size < 4294967281 ∧ 1 ≤ p.2.1.size then some (Lib.splitB p.2.1 0 (Lib.countB p.1 p.2.1) p.1) else none) = some b := hb
        split at hb
        · rename_i hr
          have hb := Option.some.inj hb
          subst hb
          exact split_key htab p.1 p.2.1 hr.1 hr.2
        · cases hb
      · cases hG
    · cases hG
end Go.Proofs.YtalkkenkeilmpaaDoor.G
