/- Numbers and spots as texts: both programs write the same. -/
import Derived.Test.YtalkkenkeilmpaaDoorT1
import Derived.Lib.ItoaLen
import Derived.Lib.Join
namespace Go.Proofs.YtalkkenkeilmpaaDoor.Q
open Go Go.RowKit Go.Proofs Go.Proofs.YtalkkenkeilmpaaDoor.Ev Go.Proofs.YtalkkenkeilmpaaDoor.G
set_option linter.unusedSimpArgs false
set_option linter.unusedVariables false

/-! ### texts as lists of bytes -/
def mkS (l : List UInt8) : ByteArray := ⟨l.toArray⟩
theorem mkS_size (l : List UInt8) : (mkS l).size = l.length := by simp [mkS, ByteArray.size]
theorem mkS_app (l m : List UInt8) : mkS l ++ mkS m = mkS (l ++ m) := by
  apply ByteArray.ext
  simp [mkS, ByteArray.data_append]
theorem mkS_at (l : List UInt8) (i : Nat) : bAt (mkS l) i = ((l.getD i 0).toNat : Int) := by
  simp [bAt, mkS, List.getD_eq_getElem?_getD]
theorem mkS_drop (l : List UInt8) (i : Nat) : (mkS l).extract i (mkS l).size = mkS (l.drop i) := by
  apply ByteArray.ext
  simp only [ByteArray.data_extract, mkS_size]
  apply Array.ext'
  simp only [mkS, Array.toList_extract, List.extract_eq_take_drop]
  rw [List.take_of_length_le (by simp)]
theorem mkS_inj {l m : List UInt8} (h : mkS l = mkS m) : l = m := by
  have := congrArg (fun b => b.data.toList) h
  simpa [mkS] using this
theorem wrap_u8 {n : Int} (h0 : 0 ≤ n) (h1 : n < 256) : IntKind.wrap .u8 n = n := by
  have := Int.emod_eq_of_lt h0 h1
  simp only [IntKind.wrap]
  first | exact this | (simp; omega) | omega

/-! ### the digits -/
def dB (n : Nat) : UInt8 := UInt8.ofNat (48 + n)
def F4 (n : Nat) : List UInt8 := [dB (n / 1000), dB (n / 100 % 10), dB (n / 10 % 10), dB (n % 10)]
theorem four_f (k : Nat) {n : Nat} (h : n < 10000) : spec_l1Four.f k (n : Int) = some (mkS (F4 n)) := by
  have w1 : W ((n : Int).tdiv 1000) = ((n / 1000 : Nat) : Int) := by rw [Int.tdiv_eq_ediv_of_nonneg (by omega), W_id (by omega) (by omega)]; omega
  have w2 : W ((n : Int).tdiv 100) = ((n / 100 : Nat) : Int) := by rw [Int.tdiv_eq_ediv_of_nonneg (by omega), W_id (by omega) (by omega)]; omega
  have w3 : W ((n : Int).tdiv 10) = ((n / 10 : Nat) : Int) := by rw [Int.tdiv_eq_ediv_of_nonneg (by omega), W_id (by omega) (by omega)]; omega
  have m2 : ((n / 100 : Nat) : Int).tmod 10 = ((n / 100 % 10 : Nat) : Int) := by rw [Int.tmod_eq_emod_of_nonneg (by omega)]; omega
  have m3 : ((n / 10 : Nat) : Int).tmod 10 = ((n / 10 % 10 : Nat) : Int) := by rw [Int.tmod_eq_emod_of_nonneg (by omega)]; omega
  have m4 : (n : Int).tmod 10 = ((n % 10 : Nat) : Int) := by rw [Int.tmod_eq_emod_of_nonneg (by omega)]; omega
  have e : ∀ q : Nat, q < 10 → (IntKind.wrap .u8 (W (48 + (q : Int)))).toNat = 48 + q := fun q hq => by
    rw [W_id (by omega) (by omega), wrap_u8 (by omega) (by omega)]; omega
  unfold spec_l1Four.f
  rw [if_neg (by decide), if_neg (by decide), if_neg (by decide), if_neg (by decide), if_neg (by decide), if_neg (by decide), w1, w2, w3, m2, m3, m4]
  simp only [strOf, List.map_cons, List.map_nil, e _ (show n / 1000 < 10 by omega), e _ (show n / 100 % 10 < 10 by omega), e _ (show n / 10 % 10 < 10 by omega), e _ (show n % 10 < 10 by omega)]
  rfl
def fo : List Int → List UInt8
  | [] => []
  | x :: l => fo l ++ F4 x.toNat
theorem F4_len (n : Nat) : (F4 n).length = 4 := rfl
theorem fo_len : ∀ l : List Int, (fo l).length = 4 * l.length
  | [] => rfl
  | x :: l => by simp only [fo, List.length_append, fo_len l, F4_len, List.length_cons]; omega
theorem NumText_l6 {d : List Int} {b : Nm} (hd : DG d) (hl : d.length ≤ 1000) : ∀ m : Nat, m ≤ d.length → Lv (fun k n => spec_NumText.l6 k n d (mkS (fo (d.drop m))) ((m : Int) - 1) b) (((), mkS (fo d), ()), (b, ())) := by
  intro m
  induction m with
  | zero =>
    intro _
    refine Lv.step (g := fun k n => spec_NumText.s6 k (spec_NumText.l6 k n) d (mkS (fo (d.drop 0))) (((0 : Nat) : Int) - 1) b) ?_ (fun _ _ => rfl)
    simp only [spec_NumText.s6, decide_eq_true_eq, if_neg (show ¬ ((0 : Nat) : Int) - 1 ≥ 0 by omega), List.drop_zero]
    exact .now fun _ _ => rfl
  | succ m ih =>
    intro hm
    have hm' : m < d.length := by omega
    have e1 : ((m + 1 : Nat) : Int) - 1 = (m : Int) := by omega
    have hdm := hd d[m] (List.getElem_mem hm')
    have hx : ((d[m].toNat : Nat) : Int) = d[m] := by omega
    have f4 : ∀ k, spec_l1Four.f k d[m] = some (mkS (F4 d[m].toNat)) := fun k => by
      have := four_f k (n := d[m].toNat) (by omega)
      rwa [hx] at this
    have w : W ((m : Int) - 1) = (m : Int) - 1 := W_id (by omega) (by omega)
    rw [e1]
    refine Lv.step (g := fun k n => spec_NumText.s6 k (spec_NumText.l6 k n) d (mkS (fo (d.drop (m + 1)))) (m : Int) b) ?_ (fun _ _ => rfl)
    have hfo : fo (d.drop (m + 1)) ++ F4 d[m].toNat = fo (d.drop m) := by rw [List.drop_eq_getElem_cons hm']; rfl
    have hdl : (d.drop (m + 1)).length ≤ d.length := by rw [List.length_drop]; omega
    simp only [spec_NumText.s6, decide_eq_true_eq, if_pos (show (m : Int) ≥ 0 by omega), if_pos (show (m : Int) < (d.length : Int) by omega), rd_get hm', f4, Option.bind_some, mkS_size, mkS_app, fo_len, F4_len, w, hfo, if_pos (lt47_of (show 4 * (d.drop (m + 1)).length + 4 < 2199023255552 by omega))]
    exact ih (by omega)
theorem ub {c : UInt8} : ((c.toNat : Int) == 48) = (c == 48) := by
  rw [Bool.eq_iff_iff, beq_iff_eq, beq_iff_eq]
  constructor
  · intro h
    apply UInt8.toNat_inj.1
    have : (48 : UInt8).toNat = 48 := rfl
    omega
  · rintro rfl; rfl
theorem NumText_l9 {b : Nm} : ∀ l : List UInt8, l.dropWhile (· == 48) ≠ [] → Lv (fun k n => spec_NumText.l9 k n (mkS l) b) (((), mkS (l.dropWhile (· == 48)), ()), (b, ()))
  | [], h => absurd rfl h
  | c :: l, h => by
    refine Lv.step (g := fun k n => spec_NumText.s9 k (spec_NumText.l9 k n) (mkS (c :: l)) b) ?_ (fun _ _ => rfl)
    have s0 : (0 : Int).toNat < (mkS (c :: l)).size := by rw [mkS_size]; simp
    have s1 : (1 : Int) ≤ ((mkS (c :: l)).size : Int) := by rw [mkS_size]; simp only [List.length_cons]; omega
    have e0 : bAt (mkS (c :: l)) ((0 : Int).toNat) = (c.toNat : Int) := by rw [mkS_at]; rfl
    have e1 : (mkS (c :: l)).extract ((1 : Int).toNat) (mkS (c :: l)).size = mkS l := by rw [mkS_drop]; rfl
    rw [List.dropWhile_cons] at h ⊢
    simp only [spec_NumText.s9, if_pos (Int.le_refl 0), if_pos s0, e0, ub, if_pos (show (0 : Int) ≤ 1 by omega), if_pos s1, e1]
    by_cases c0 : (c == 48) = true
    · rw [if_pos c0] at h
      simp only [if_pos c0]
      exact NumText_l9 l h
    · simp only [if_neg c0]
      exact .now fun _ _ => rfl
theorem dec_ge {n : Nat} (h : 10 ≤ n) : Lib.decDigits n = Lib.decDigits (n / 10) ++ [dB (n % 10)] := by rw [Lib.decDigits, dif_neg (by omega)]; rfl
theorem dec_lt {n : Nat} (h : n < 10) : Lib.decDigits n = [dB n] := by rw [Lib.decDigits, dif_pos h]; rfl
theorem dec_ne (n : Nat) : Lib.decDigits n ≠ [] := by
  by_cases h : n < 10
  · rw [dec_lt h]; simp
  · rw [dec_ge (by omega)]; simp
theorem dec_4 {n : Nat} (h : 10000 ≤ n) : Lib.decDigits n = Lib.decDigits (n / 10000) ++ F4 (n % 10000) := by
  rw [dec_ge (by omega), dec_ge (n := n / 10) (by omega), dec_ge (n := n / 10 / 10) (by omega), dec_ge (n := n / 10 / 10 / 10) (by omega)]
  have e : n / 10 / 10 / 10 / 10 = n / 10000 := by omega
  have a1 : n / 10 / 10 / 10 % 10 = n % 10000 / 1000 := by omega
  have a2 : n / 10 / 10 % 10 = n % 10000 / 100 % 10 := by omega
  have a3 : n / 10 % 10 = n % 10000 / 10 % 10 := by omega
  have a4 : n % 10 = n % 10000 % 10 := by omega
  rw [e, a1, a2, a3, a4]
  simp [F4]
theorem dB_ne {q : Nat} (h0 : 0 < q) (h : q < 10) : (dB q == 48) = false := by
  rw [beq_eq_false_iff_ne]
  intro e
  have := congrArg UInt8.toNat e
  have e2 : (dB q).toNat = 48 + q := by unfold dB; rw [UInt8.toNat_ofNat']; omega
  have e3 : (48 : UInt8).toNat = 48 := rfl
  omega
theorem dB_0 : (dB 0 == 48) = true := rfl
theorem F4_dec {n : Nat} (h0 : 0 < n) (h : n < 10000) : (F4 n).dropWhile (· == 48) = Lib.decDigits n := by
  unfold F4
  by_cases c1 : n / 1000 = 0
  · rw [c1, List.dropWhile_cons_of_pos (p := fun x : UInt8 => x == 48) dB_0]
    by_cases c2 : n / 100 % 10 = 0
    · rw [c2, List.dropWhile_cons_of_pos (p := fun x : UInt8 => x == 48) dB_0]
      by_cases c3 : n / 10 % 10 = 0
      · rw [c3, List.dropWhile_cons_of_pos (p := fun x : UInt8 => x == 48) dB_0, List.dropWhile_cons_of_neg (p := fun x : UInt8 => x == 48) (by rw [dB_ne (by omega) (by omega)]; simp), dec_lt (by omega), show n % 10 = n by omega]
      · rw [List.dropWhile_cons_of_neg (p := fun x : UInt8 => x == 48) (by rw [dB_ne (by omega) (by omega)]; simp), dec_ge (by omega), dec_lt (by omega), show n / 10 % 10 = n / 10 by omega]; rfl
    · rw [List.dropWhile_cons_of_neg (p := fun x : UInt8 => x == 48) (by rw [dB_ne (by omega) (by omega)]; simp), dec_ge (by omega), dec_ge (n := n / 10) (by omega), dec_lt (by omega), show n / 10 / 10 = n / 100 % 10 by omega]; rfl
  · rw [List.dropWhile_cons_of_neg (p := fun x : UInt8 => x == 48) (by rw [dB_ne (by omega) (by omega)]; simp), dec_ge (by omega), dec_ge (n := n / 10) (by omega), dec_ge (n := n / 10 / 10) (by omega), dec_lt (by omega), show n / 10 / 10 / 10 = n / 1000 by omega, show n / 10 / 10 % 10 = n / 100 % 10 by omega]; rfl
theorem fo_dec : ∀ n : Nat, 0 < n → (fo (dg n)).dropWhile (· == 48) = Lib.decDigits n := by
  intro n
  induction n using Nat.strongRecOn with
  | ind n ih =>
    intro h
    rw [dg_pos h]
    simp only [fo, Int.toNat_natCast]
    rw [List.dropWhile_append]
    by_cases c : n / 10000 = 0
    · rw [c, dg_zero]
      simp only [fo, List.dropWhile_nil, List.isEmpty_nil, if_true]
      rw [show n % 10000 = n by omega]
      exact F4_dec h (by omega)
    · have hq := ih (n / 10000) (by omega) (by omega)
      rw [hq, if_neg (by rw [List.isEmpty_iff]; exact dec_ne _)]
      exact (dec_4 (by omega)).symm
theorem NumText_ev {x : Int} (h : x.natAbs < 10000000000000000) : Ev (fun k => spec_NumText.f k (nm x)) (mkS (Lib.itoa x)) := by
  unfold spec_NumText.f
  refine (mag_dg (neg := decide (x < 0)) h (fun hh => by simp only [decide_eq_true_eq] at hh; omega)).bind ?_
  by_cases h0 : x = 0
  · subst h0
    have e : dg (0 : Int).natAbs = [] := dg_zero
    rw [e]
    have : Lib.itoa 0 = [48] := by unfold Lib.itoa; rw [if_neg (by omega), dec_lt (by decide)]; rfl
    rw [this]
    exact .now fun _ => rfl
  · have hp : 0 < x.natAbs := by omega
    have hne : ¬ (((dg x.natAbs).length : Int) == 0) = true := by
      rw [beq_iff_eq]
      intro e
      have : dg x.natAbs = [] := List.eq_nil_of_length_eq_zero (by omega)
      rw [dg_ne] at this; omega
    simp only [if_neg hne]
    have hlen := dg_len16 h
    have w : W (((dg x.natAbs).length : Int) - 1) = ((dg x.natAbs).length : Int) - 1 := W_id (by omega) (by omega)
    have l6 := NumText_l6 (d := dg x.natAbs) (b := nm x) (dg_DG _) (by omega) (dg x.natAbs).length (Nat.le_refl _)
    rw [List.drop_length] at l6
    rw [w]
    refine l6.ev.bind ?_
    have hd := fo_dec x.natAbs hp
    have l9 := NumText_l9 (b := nm x) (fo (dg x.natAbs)) (by rw [hd]; exact dec_ne _)
    rw [hd] at l9
    refine l9.ev.bind ?_
    by_cases hn : x < 0
    · have e : (nm x).neg = true := by simp [nm, hn]
      have e2 : Lib.itoa x = 45 :: Lib.decDigits x.natAbs := by unfold Lib.itoa; rw [if_pos hn]
      have e3 : (⟨#[45]⟩ : ByteArray) = mkS [45] := rfl
      have hl := Lib.itoa_length_le x (by omega) (by omega)
      rw [e2] at hl
      simp only [List.length_cons] at hl
      simp only [e, if_true, e3, mkS_size, mkS_app, List.length_cons, List.length_nil, if_pos (lt47_of (show 0 + 1 + (Lib.decDigits x.natAbs).length < 2199023255552 by omega))]
      rw [e2]
      exact .now fun _ => rfl
    · have e : (nm x).neg = false := by simp [nm, hn]
      have e2 : Lib.itoa x = Lib.decDigits x.natAbs := by unfold Lib.itoa; rw [if_neg hn, show x.toNat = x.natAbs by omega]
      simp only [e, Bool.false_eq_true, if_false, e2]
      exact .now fun _ => rfl
theorem l3Text_ev {x : Int} (h : x.natAbs < 10000000000000000) : Ev (fun k => spec_l3Text.f k x) (mkS (Lib.itoa x)) := by
  unfold spec_l3Text.f
  exact (Of_ev h).bind ((NumText_ev h).bind (.now fun _ => rfl))
/-- the text of four numbers. -/
def txt (p : S4) : List UInt8 := Lib.itoa p.a ++ [32] ++ Lib.itoa p.b ++ [32] ++ Lib.itoa p.c ++ [32] ++ Lib.itoa p.d
theorem sp32 : (⟨#[32]⟩ : ByteArray) = mkS [32] := rfl
theorem il {x : Int} (h : x.natAbs < 10000000000000000) : (Lib.itoa x).length ≤ 21 := Lib.itoa_length_le x (by omega) (by omega)
theorem cat_ev {p : S4} (ha : p.a.natAbs < 10000000000000000) (hb : p.b.natAbs < 10000000000000000) (hc : p.c.natAbs < 10000000000000000) (hd : p.d.natAbs < 10000000000000000) :
    Ev (fun k => (spec_l3Text.f k  p.a).bind fun t2 => if lt47 (t2.size + (⟨#[32]⟩ : ByteArray).size) = true then ((spec_l3Text.f k  p.b).bind fun t3 => if lt47 ((t2 ++ (⟨#[32]⟩ : ByteArray)).size + t3.size) = true then (if lt47 (((t2 ++ (⟨#[32]⟩ : ByteArray)) ++ t3).size + (⟨#[32]⟩ : ByteArray).size) = true then ((spec_l3Text.f k  p.c).bind fun t4 => if lt47 ((((t2 ++ (⟨#[32]⟩ : ByteArray)) ++ t3) ++ (⟨#[32]⟩ : ByteArray)).size + t4.size) = true then (if lt47 (((((t2 ++ (⟨#[32]⟩ : ByteArray)) ++ t3) ++ (⟨#[32]⟩ : ByteArray)) ++ t4).size + (⟨#[32]⟩ : ByteArray).size) = true then ((spec_l3Text.f k  p.d).bind fun t5 => if lt47 ((((((t2 ++ (⟨#[32]⟩ : ByteArray)) ++ t3) ++ (⟨#[32]⟩ : ByteArray)) ++ t4) ++ (⟨#[32]⟩ : ByteArray)).size + t5.size) = true then (some ((((((t2 ++ (⟨#[32]⟩ : ByteArray)) ++ t3) ++ (⟨#[32]⟩ : ByteArray)) ++ t4) ++ (⟨#[32]⟩ : ByteArray)) ++ t5)) else none) else none) else none) else none) else none) else none) (mkS (txt p)) := by
  have la := il ha; have lb := il hb; have lc := il hc; have ld := il hd
  refine (l3Text_ev ha).bind ?_
  simp only [sp32, mkS_size, mkS_app, List.length_append, List.length_cons, List.length_nil, if_pos (lt47_of (show (Lib.itoa p.a).length + (0 + 1) < 2199023255552 by omega))]
  refine (l3Text_ev hb).bind ?_
  simp only [mkS_size, mkS_app, List.length_append, List.length_cons, List.length_nil, if_pos (lt47_of (show (Lib.itoa p.a).length + (0 + 1) + (Lib.itoa p.b).length < 2199023255552 by omega)), if_pos (lt47_of (show (Lib.itoa p.a).length + (0 + 1) + (Lib.itoa p.b).length + (0 + 1) < 2199023255552 by omega))]
  refine (l3Text_ev hc).bind ?_
  simp only [mkS_size, mkS_app, List.length_append, List.length_cons, List.length_nil, if_pos (lt47_of (show (Lib.itoa p.a).length + (0 + 1) + (Lib.itoa p.b).length + (0 + 1) + (Lib.itoa p.c).length < 2199023255552 by omega)), if_pos (lt47_of (show (Lib.itoa p.a).length + (0 + 1) + (Lib.itoa p.b).length + (0 + 1) + (Lib.itoa p.c).length + (0 + 1) < 2199023255552 by omega))]
  refine (l3Text_ev hd).bind ?_
  simp only [mkS_size, mkS_app, List.length_append, List.length_cons, List.length_nil, if_pos (lt47_of (show (Lib.itoa p.a).length + (0 + 1) + (Lib.itoa p.b).length + (0 + 1) + (Lib.itoa p.c).length + (0 + 1) + (Lib.itoa p.d).length < 2199023255552 by omega))]
  exact .now fun _ => rfl
theorem itoa_f (k : Nat) {x : Int} (h : x.natAbs < 10000000000000000) : strconv_Itoa.f k x = some (mkS (Lib.itoa x)) := by
  unfold strconv_Itoa.f
  rw [if_pos ⟨by omega, by omega⟩]; rfl
theorem join_f (k : Nat) {p : S4} (ha : p.a.natAbs < 10000000000000000) (hb : p.b.natAbs < 10000000000000000) (hc : p.c.natAbs < 10000000000000000) (hd : p.d.natAbs < 10000000000000000) : strings_Join.f k [mkS (Lib.itoa p.a), mkS (Lib.itoa p.b), mkS (Lib.itoa p.c), mkS (Lib.itoa p.d)] (⟨#[32]⟩ : ByteArray) = some (mkS (txt p)) := by
  have la := il ha; have lb := il hb; have lc := il hc; have ld := il hd
  have e : Lib.join ([mkS (Lib.itoa p.a), mkS (Lib.itoa p.b), mkS (Lib.itoa p.c), mkS (Lib.itoa p.d)].map (·.data.toList)) (⟨#[32]⟩ : ByteArray).data.toList = txt p := by
    simp [mkS, Lib.join, List.intercalate, txt]
  unfold strings_Join.f joinB
  rw [e, if_pos ⟨by simp, by unfold txt; simp only [List.length_append, List.length_cons, List.length_nil]; omega⟩]
  rfl
theorem pt_l5 {p : S4} (ha : p.a.natAbs < 10000000000000000) (hb : p.b.natAbs < 10000000000000000) (hc : p.c.natAbs < 10000000000000000) (hd : p.d.natAbs < 10000000000000000) : Lv (fun k n => impl_PlaneText.l5 k n p 0 []) (((), ()), ([mkS (Lib.itoa p.a), mkS (Lib.itoa p.b), mkS (Lib.itoa p.c), mkS (Lib.itoa p.d)], ())) := by
  have w0 : W (0 + 1) = 1 := W_id (by omega) (by omega)
  have w1 : W (1 + 1) = 2 := W_id (by omega) (by omega)
  have w2 : W (2 + 1) = 3 := W_id (by omega) (by omega)
  have w3 : W (3 + 1) = 4 := W_id (by omega) (by omega)
  have s0 : sel [p.a, p.b, p.c, p.d] 0 = p.a := rfl
  have s1 : sel [p.a, p.b, p.c, p.d] 1 = p.b := rfl
  have s2 : sel [p.a, p.b, p.c, p.d] 2 = p.c := rfl
  have s3 : sel [p.a, p.b, p.c, p.d] 3 = p.d := rfl
  refine Lv.step (g := fun k n => impl_PlaneText.s5 k (impl_PlaneText.l5 k n) p 0 []) ?_ (fun _ _ => rfl)
  simp only [impl_PlaneText.s5, decide_eq_true_eq, if_pos (show (0 : Int) < 4 by omega), if_pos (Int.le_refl 0), s0, itoa_f _ ha, Option.bind_some, w0, List.length_nil, List.length_cons, List.nil_append, if_pos (lt47_of (show 0 + (0 + 1) < 2199023255552 by omega))]
  refine Lv.step (g := fun k n => impl_PlaneText.s5 k (impl_PlaneText.l5 k n) p 1 [mkS (Lib.itoa p.a)]) ?_ (fun _ _ => rfl)
  simp only [impl_PlaneText.s5, decide_eq_true_eq, if_pos (show (1 : Int) < 4 by omega), if_pos (show (0 : Int) ≤ 1 by omega), s1, itoa_f _ hb, Option.bind_some, w1, List.length_nil, List.length_cons, List.cons_append, List.nil_append, if_pos (lt47_of (show 0 + 1 + (0 + 1) < 2199023255552 by omega))]
  refine Lv.step (g := fun k n => impl_PlaneText.s5 k (impl_PlaneText.l5 k n) p 2 [mkS (Lib.itoa p.a), mkS (Lib.itoa p.b)]) ?_ (fun _ _ => rfl)
  simp only [impl_PlaneText.s5, decide_eq_true_eq, if_pos (show (2 : Int) < 4 by omega), if_pos (show (0 : Int) ≤ 2 by omega), s2, itoa_f _ hc, Option.bind_some, w2, List.length_nil, List.length_cons, List.cons_append, List.nil_append, if_pos (lt47_of (show 0 + 1 + 1 + (0 + 1) < 2199023255552 by omega))]
  refine Lv.step (g := fun k n => impl_PlaneText.s5 k (impl_PlaneText.l5 k n) p 3 [mkS (Lib.itoa p.a), mkS (Lib.itoa p.b), mkS (Lib.itoa p.c)]) ?_ (fun _ _ => rfl)
  simp only [impl_PlaneText.s5, decide_eq_true_eq, if_pos (show (3 : Int) < 4 by omega), if_pos (show (0 : Int) ≤ 3 by omega), s3, itoa_f _ hd, Option.bind_some, w3, List.length_nil, List.length_cons, List.cons_append, List.nil_append, if_pos (lt47_of (show 0 + 1 + 1 + 1 + (0 + 1) < 2199023255552 by omega))]
  refine Lv.step (g := fun k n => impl_PlaneText.s5 k (impl_PlaneText.l5 k n) p 4 [mkS (Lib.itoa p.a), mkS (Lib.itoa p.b), mkS (Lib.itoa p.c), mkS (Lib.itoa p.d)]) ?_ (fun _ _ => rfl)
  simp only [impl_PlaneText.s5, decide_eq_true_eq, if_neg (show ¬ (4 : Int) < 4 by omega)]
  exact .now fun _ _ => rfl
def pt_txt (p : S4) : List UInt8 := if okp p = true then txt p else []
theorem pt_bd {p : S4} (h : okp p = true) : p.a.natAbs < 10000000000000000 ∧ p.b.natAbs < 10000000000000000 ∧ p.c.natAbs < 10000000000000000 ∧ p.d.natAbs < 10000000000000000 := by
  simp only [okp, decide_eq_true_eq] at h; unfold PlOk at h; omega
theorem pt_spec (p : S4) : Ev (fun k => spec_PlaneText.f k p) (mkS (pt_txt p)) := by
  unfold spec_PlaneText.f
  refine (spec_PlaneOk_ev p).bind ?_
  unfold pt_txt
  cases h : okp p with
  | false => simp only [Bool.not_false, if_true, Bool.false_eq_true, if_false]; exact .now fun _ => rfl
  | true =>
    obtain ⟨ha, hb, hc, hd⟩ := pt_bd h
    simp only [Bool.not_true, Bool.false_eq_true, if_false, if_true]
    exact cat_ev ha hb hc hd
theorem pt_impl (p : S4) : Ev (fun k => impl_PlaneText.f k p) (mkS (pt_txt p)) := by
  unfold impl_PlaneText.f
  refine (impl_PlaneOk_ev p).bind ?_
  unfold pt_txt
  cases h : okp p with
  | false => simp only [Bool.not_false, if_true, Bool.false_eq_true, if_false]; exact .now fun _ => rfl
  | true =>
    obtain ⟨ha, hb, hc, hd⟩ := pt_bd h
    simp only [Bool.not_true, Bool.false_eq_true, if_false, if_true]
    refine (pt_l5 ha hb hc hd).ev.bind ?_
    simp only [join_f _ ha hb hc hd, Option.bind_some]
    exact .now fun _ => rfl
theorem FnExactPlaneText_pure (p : S4) : ∃ k, laws_FnExactPlaneText.f k p = some true := by
  have key : Ev (fun k => laws_FnExactPlaneText.f k p) true := by
    simp only [laws_FnExactPlaneText.f, laws_toPlane.f, Option.bind_some]
    refine (pt_spec p).bind ((pt_impl p).bind ?_)
    simp only [beq_self_eq_true, Bool.not_true, Bool.false_eq_true, if_false]
    exact .now fun _ => rfl
  obtain ⟨K, h⟩ := key
  exact ⟨K, h K (Nat.le_refl _)⟩
theorem st_l5 {p : S4} (ha : p.a.natAbs < 10000000000000000) (hb : p.b.natAbs < 10000000000000000) (hc : p.c.natAbs < 10000000000000000) (hd : p.d.natAbs < 10000000000000000) : Lv (fun k n => impl_SpotText.l5 k n p 0 []) (((), ()), ([mkS (Lib.itoa p.a), mkS (Lib.itoa p.b), mkS (Lib.itoa p.c), mkS (Lib.itoa p.d)], ())) := by
  have w0 : W (0 + 1) = 1 := W_id (by omega) (by omega)
  have w1 : W (1 + 1) = 2 := W_id (by omega) (by omega)
  have w2 : W (2 + 1) = 3 := W_id (by omega) (by omega)
  have w3 : W (3 + 1) = 4 := W_id (by omega) (by omega)
  have s0 : sel [p.a, p.b, p.c, p.d] 0 = p.a := rfl
  have s1 : sel [p.a, p.b, p.c, p.d] 1 = p.b := rfl
  have s2 : sel [p.a, p.b, p.c, p.d] 2 = p.c := rfl
  have s3 : sel [p.a, p.b, p.c, p.d] 3 = p.d := rfl
  refine Lv.step (g := fun k n => impl_SpotText.s5 k (impl_SpotText.l5 k n) p 0 []) ?_ (fun _ _ => rfl)
  simp only [impl_SpotText.s5, decide_eq_true_eq, if_pos (show (0 : Int) < 4 by omega), if_pos (Int.le_refl 0), s0, itoa_f _ ha, Option.bind_some, w0, List.length_nil, List.length_cons, List.nil_append, if_pos (lt47_of (show 0 + (0 + 1) < 2199023255552 by omega))]
  refine Lv.step (g := fun k n => impl_SpotText.s5 k (impl_SpotText.l5 k n) p 1 [mkS (Lib.itoa p.a)]) ?_ (fun _ _ => rfl)
  simp only [impl_SpotText.s5, decide_eq_true_eq, if_pos (show (1 : Int) < 4 by omega), if_pos (show (0 : Int) ≤ 1 by omega), s1, itoa_f _ hb, Option.bind_some, w1, List.length_nil, List.length_cons, List.cons_append, List.nil_append, if_pos (lt47_of (show 0 + 1 + (0 + 1) < 2199023255552 by omega))]
  refine Lv.step (g := fun k n => impl_SpotText.s5 k (impl_SpotText.l5 k n) p 2 [mkS (Lib.itoa p.a), mkS (Lib.itoa p.b)]) ?_ (fun _ _ => rfl)
  simp only [impl_SpotText.s5, decide_eq_true_eq, if_pos (show (2 : Int) < 4 by omega), if_pos (show (0 : Int) ≤ 2 by omega), s2, itoa_f _ hc, Option.bind_some, w2, List.length_nil, List.length_cons, List.cons_append, List.nil_append, if_pos (lt47_of (show 0 + 1 + 1 + (0 + 1) < 2199023255552 by omega))]
  refine Lv.step (g := fun k n => impl_SpotText.s5 k (impl_SpotText.l5 k n) p 3 [mkS (Lib.itoa p.a), mkS (Lib.itoa p.b), mkS (Lib.itoa p.c)]) ?_ (fun _ _ => rfl)
  simp only [impl_SpotText.s5, decide_eq_true_eq, if_pos (show (3 : Int) < 4 by omega), if_pos (show (0 : Int) ≤ 3 by omega), s3, itoa_f _ hd, Option.bind_some, w3, List.length_nil, List.length_cons, List.cons_append, List.nil_append, if_pos (lt47_of (show 0 + 1 + 1 + 1 + (0 + 1) < 2199023255552 by omega))]
  refine Lv.step (g := fun k n => impl_SpotText.s5 k (impl_SpotText.l5 k n) p 4 [mkS (Lib.itoa p.a), mkS (Lib.itoa p.b), mkS (Lib.itoa p.c), mkS (Lib.itoa p.d)]) ?_ (fun _ _ => rfl)
  simp only [impl_SpotText.s5, decide_eq_true_eq, if_neg (show ¬ (4 : Int) < 4 by omega)]
  exact .now fun _ _ => rfl
def st_txt (p : S4) : List UInt8 := if spk p = true then txt p else []
theorem st_bd {p : S4} (h : spk p = true) : p.a.natAbs < 10000000000000000 ∧ p.b.natAbs < 10000000000000000 ∧ p.c.natAbs < 10000000000000000 ∧ p.d.natAbs < 10000000000000000 := by
  simp only [spk, decide_eq_true_eq, Bool.and_eq_true] at h; omega
theorem st_spec (p : S4) : Ev (fun k => spec_SpotText.f k p) (mkS (st_txt p)) := by
  unfold spec_SpotText.f
  refine (spec_SpotOk_ev p).bind ?_
  unfold st_txt
  cases h : spk p with
  | false => simp only [Bool.not_false, if_true, Bool.false_eq_true, if_false]; exact .now fun _ => rfl
  | true =>
    obtain ⟨ha, hb, hc, hd⟩ := st_bd h
    simp only [Bool.not_true, Bool.false_eq_true, if_false, if_true]
    exact cat_ev ha hb hc hd
theorem st_impl (p : S4) : Ev (fun k => impl_SpotText.f k p) (mkS (st_txt p)) := by
  unfold impl_SpotText.f
  refine (impl_SpotOk_ev p).bind ?_
  unfold st_txt
  cases h : spk p with
  | false => simp only [Bool.not_false, if_true, Bool.false_eq_true, if_false]; exact .now fun _ => rfl
  | true =>
    obtain ⟨ha, hb, hc, hd⟩ := st_bd h
    simp only [Bool.not_true, Bool.false_eq_true, if_false, if_true]
    refine (st_l5 ha hb hc hd).ev.bind ?_
    simp only [join_f _ ha hb hc hd, Option.bind_some]
    exact .now fun _ => rfl
theorem FnExactSpotText_pure (p : S4) : ∃ k, laws_FnExactSpotText.f k p = some true := by
  have key : Ev (fun k => laws_FnExactSpotText.f k p) true := by
    simp only [laws_FnExactSpotText.f, laws_toSpot.f, Option.bind_some]
    refine (st_spec p).bind ((st_impl p).bind ?_)
    simp only [beq_self_eq_true, Bool.not_true, Bool.false_eq_true, if_false]
    exact .now fun _ => rfl
  obtain ⟨K, h⟩ := key
  exact ⟨K, h K (Nat.le_refl _)⟩
end Go.Proofs.YtalkkenkeilmpaaDoor.Q
