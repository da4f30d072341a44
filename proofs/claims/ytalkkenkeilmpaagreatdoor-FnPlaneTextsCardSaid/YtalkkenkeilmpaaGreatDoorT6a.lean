/- Picked out of other texts. -/
import Derived.Test.YtalkkenkeilmpaaGreatDoorN3
import Derived.Test.YtalkkenkeilmpaaGreatDoorX0
import Derived.Test.YtalkkenkeilmpaaGreatDoorN4d
import Derived.Lib.Split
import Derived.Lib.ItoaLen
import Derived.Lib.Join
namespace Go.Proofs.YtalkkenkeilmpaaGreatDoor.Q
open Go Go.RowKit Go.Proofs Go.Proofs.YtalkkenkeilmpaaGreatDoor.Ev Go.Proofs.YtalkkenkeilmpaaGreatDoor.G
set_option linter.unusedSimpArgs false
set_option linter.unusedVariables false

theorem gcd_le' {x y : Int} {N : Nat} (hx : x.natAbs ≤ N) (hy : y.natAbs ≤ N) : Nat.gcd x.natAbs y.natAbs ≤ N := by
  by_cases z : x.natAbs = 0
  · rw [z, Nat.gcd_zero_left]; exact hy
  · exact Nat.le_trans (Nat.gcd_le_left _ (by omega)) hx
def spk (s : S4) : Bool := decide ((1 ≤ s.d ∧ s.d ≤ 1000000000) ∧ (-1000000000 ≤ s.a ∧ s.a ≤ 1000000000) ∧ (-1000000000 ≤ s.b ∧ s.b ≤ 1000000000) ∧ (-1000000000 ≤ s.c ∧ s.c ≤ 1000000000)) && (((Nat.gcd (Nat.gcd s.a.natAbs s.b.natAbs) (Nat.gcd s.c.natAbs s.d.natAbs) : Nat) : Int) == 1)
def mkS (l : List UInt8) : ByteArray := ⟨l.toArray⟩
theorem mkS_size (l : List UInt8) : (mkS l).size = l.length := by simp [mkS, ByteArray.size]
theorem mkS_app (l m : List UInt8) : mkS l ++ mkS m = mkS (l ++ m) := by
  apply ByteArray.ext
  simp [mkS, ByteArray.data_append]
theorem mkS_at (l : List UInt8) (i : Nat) : bAt (mkS l) i = ((l.getD i 0).toNat : Int) := by
  simp [bAt, mkS, List.getD_eq_getElem?_getD]
theorem mkS_drop (l : List UInt8) (i : Nat) : (mkS l).extract i (mkS l).size = mkS (l.drop i) := by
  apply ByteArray.ext
  simp only [ByteArray.data_extract, mkS_size]
  apply Array.ext'
  simp only [mkS, Array.toList_extract, List.extract_eq_take_drop]
  rw [List.take_of_length_le (by simp)]
theorem mkS_inj {l m : List UInt8} (h : mkS l = mkS m) : l = m := by
  have := congrArg (fun b => b.data.toList) h
  simpa [mkS] using this
theorem wrap_u8 {n : Int} (h0 : 0 ≤ n) (h1 : n < 256) : IntKind.wrap .u8 n = n := by
  have := Int.emod_eq_of_lt h0 h1
  simp only [IntKind.wrap]
  first | exact this | (simp; omega) | omega
def dB (n : Nat) : UInt8 := UInt8.ofNat (48 + n)
def F4 (n : Nat) : List UInt8 := [dB (n / 1000), dB (n / 100 % 10), dB (n / 10 % 10), dB (n % 10)]
def fo : List Int → List UInt8
  | [] => []
  | x :: l => fo l ++ F4 x.toNat
theorem F4_len (n : Nat) : (F4 n).length = 4 := rfl
theorem fo_len : ∀ l : List Int, (fo l).length = 4 * l.length
  | [] => rfl
  | x :: l => by simp only [fo, List.length_append, fo_len l, F4_len, List.length_cons]; omega
theorem ub {c : UInt8} : ((c.toNat : Int) == 48) = (c == 48) := by
  rw [Bool.eq_iff_iff, beq_iff_eq, beq_iff_eq]
  constructor
  · intro h
    apply UInt8.toNat_inj.1
    have : (48 : UInt8).toNat = 48 := rfl
    omega
  · rintro rfl; rfl
theorem dec_ge {n : Nat} (h : 10 ≤ n) : Lib.decDigits n = Lib.decDigits (n / 10) ++ [dB (n % 10)] := by rw [Lib.decDigits, dif_neg (by omega)]; rfl
theorem dec_lt {n : Nat} (h : n < 10) : Lib.decDigits n = [dB n] := by rw [Lib.decDigits, dif_pos h]; rfl
theorem dec_ne (n : Nat) : Lib.decDigits n ≠ [] := by
  by_cases h : n < 10
  · rw [dec_lt h]; simp
  · rw [dec_ge (by omega)]; simp
theorem dec_4 {n : Nat} (h : 10000 ≤ n) : Lib.decDigits n = Lib.decDigits (n / 10000) ++ F4 (n % 10000) := by
  rw [dec_ge (by omega), dec_ge (n := n / 10) (by omega), dec_ge (n := n / 10 / 10) (by omega), dec_ge (n := n / 10 / 10 / 10) (by omega)]
  have e : n / 10 / 10 / 10 / 10 = n / 10000 := by omega
  have a1 : n / 10 / 10 / 10 % 10 = n % 10000 / 1000 := by omega
  have a2 : n / 10 / 10 % 10 = n % 10000 / 100 % 10 := by omega
  have a3 : n / 10 % 10 = n % 10000 / 10 % 10 := by omega
  have a4 : n % 10 = n % 10000 % 10 := by omega
  rw [e, a1, a2, a3, a4]
  simp [F4]
theorem dB_ne {q : Nat} (h0 : 0 < q) (h : q < 10) : (dB q == 48) = false := by
  rw [beq_eq_false_iff_ne]
  intro e
  have := congrArg UInt8.toNat e
  have e2 : (dB q).toNat = 48 + q := by unfold dB; rw [UInt8.toNat_ofNat']; omega
  have e3 : (48 : UInt8).toNat = 48 := rfl
  omega
theorem dB_0 : (dB 0 == 48) = true := rfl
theorem F4_dec {n : Nat} (h0 : 0 < n) (h : n < 10000) : (F4 n).dropWhile (· == 48) = Lib.decDigits n := by
  unfold F4
  by_cases c1 : n / 1000 = 0
  · rw [c1, List.dropWhile_cons_of_pos (p := fun x : UInt8 => x == 48) dB_0]
    by_cases c2 : n / 100 % 10 = 0
    · rw [c2, List.dropWhile_cons_of_pos (p := fun x : UInt8 => x == 48) dB_0]
      by_cases c3 : n / 10 % 10 = 0
      · rw [c3, List.dropWhile_cons_of_pos (p := fun x : UInt8 => x == 48) dB_0, List.dropWhile_cons_of_neg (p := fun x : UInt8 => x == 48) (by rw [dB_ne (by omega) (by omega)]; simp), dec_lt (by omega), show n % 10 = n by omega]
      · rw [List.dropWhile_cons_of_neg (p := fun x : UInt8 => x == 48) (by rw [dB_ne (by omega) (by omega)]; simp), dec_ge (by omega), dec_lt (by omega), show n / 10 % 10 = n / 10 by omega]; rfl
    · rw [List.dropWhile_cons_of_neg (p := fun x : UInt8 => x == 48) (by rw [dB_ne (by omega) (by omega)]; simp), dec_ge (by omega), dec_ge (n := n / 10) (by omega), dec_lt (by omega), show n / 10 / 10 = n / 100 % 10 by omega]; rfl
  · rw [List.dropWhile_cons_of_neg (p := fun x : UInt8 => x == 48) (by rw [dB_ne (by omega) (by omega)]; simp), dec_ge (by omega), dec_ge (n := n / 10) (by omega), dec_ge (n := n / 10 / 10) (by omega), dec_lt (by omega), show n / 10 / 10 / 10 = n / 1000 by omega, show n / 10 / 10 % 10 = n / 100 % 10 by omega]; rfl
theorem fo_dec : ∀ n : Nat, 0 < n → (fo (dg n)).dropWhile (· == 48) = Lib.decDigits n := by
  intro n
  induction n using Nat.strongRecOn with
  | ind n ih =>
    intro h
    rw [dg_pos h]
    simp only [fo, Int.toNat_natCast]
    rw [List.dropWhile_append]
    by_cases c : n / 10000 = 0
    · rw [c, dg_zero]
      simp only [fo, List.dropWhile_nil, List.isEmpty_nil, if_true]
      rw [show n % 10000 = n by omega]
      exact F4_dec h (by omega)
    · have hq := ih (n / 10000) (by omega) (by omega)
      rw [hq, if_neg (by rw [List.isEmpty_iff]; exact dec_ne _)]
      exact (dec_4 (by omega)).symm
def txt (p : S4) : List UInt8 := Lib.itoa p.a ++ [32] ++ Lib.itoa p.b ++ [32] ++ Lib.itoa p.c ++ [32] ++ Lib.itoa p.d
theorem sp32 : (⟨#[32]⟩ : ByteArray) = mkS [32] := rfl
theorem il {x : Int} (h : x.natAbs < 10000000000000000) : (Lib.itoa x).length ≤ 21 := Lib.itoa_length_le x (by omega) (by omega)
theorem itoa_f (k : Nat) {x : Int} (h : x.natAbs < 10000000000000000) : strconv_Itoa.f k x = some (mkS (Lib.itoa x)) := by
  unfold strconv_Itoa.f
  rw [if_pos ⟨by omega, by omega⟩]; rfl
theorem join_f (k : Nat) {p : S4} (ha : p.a.natAbs < 10000000000000000) (hb : p.b.natAbs < 10000000000000000) (hc : p.c.natAbs < 10000000000000000) (hd : p.d.natAbs < 10000000000000000) : strings_Join.f k [mkS (Lib.itoa p.a), mkS (Lib.itoa p.b), mkS (Lib.itoa p.c), mkS (Lib.itoa p.d)] (⟨#[32]⟩ : ByteArray) = some (mkS (txt p)) := by
  have la := il ha; have lb := il hb; have lc := il hc; have ld := il hd
  have e : Lib.join ([mkS (Lib.itoa p.a), mkS (Lib.itoa p.b), mkS (Lib.itoa p.c), mkS (Lib.itoa p.d)].map (·.data.toList)) (⟨#[32]⟩ : ByteArray).data.toList = txt p := by
    simp [mkS, Lib.join, List.intercalate, txt]
  unfold strings_Join.f joinB
  rw [e, if_pos ⟨by simp, by unfold txt; simp only [List.length_append, List.length_cons, List.length_nil]; omega⟩]
  rfl
theorem pt_l5 {p : S4} (ha : p.a.natAbs < 10000000000000000) (hb : p.b.natAbs < 10000000000000000) (hc : p.c.natAbs < 10000000000000000) (hd : p.d.natAbs < 10000000000000000) : Lv (fun k n => impl_PlaneText.l5 k n p 0 []) (((), ()), ([mkS (Lib.itoa p.a), mkS (Lib.itoa p.b), mkS (Lib.itoa p.c), mkS (Lib.itoa p.d)], ())) := by
  have w0 : W (0 + 1) = 1 := W_id (by omega) (by omega)
  have w1 : W (1 + 1) = 2 := W_id (by omega) (by omega)
  have w2 : W (2 + 1) = 3 := W_id (by omega) (by omega)
  have w3 : W (3 + 1) = 4 := W_id (by omega) (by omega)
  have s0 : sel [p.a, p.b, p.c, p.d] 0 = p.a := rfl
  have s1 : sel [p.a, p.b, p.c, p.d] 1 = p.b := rfl
  have s2 : sel [p.a, p.b, p.c, p.d] 2 = p.c := rfl
  have s3 : sel [p.a, p.b, p.c, p.d] 3 = p.d := rfl
  refine Lv.step (g := fun k n => impl_PlaneText.s5 k (impl_PlaneText.l5 k n) p 0 []) ?_ (fun _ _ => rfl)
  simp only [impl_PlaneText.s5, decide_eq_true_eq, if_pos (show (0 : Int) < 4 by omega), if_pos (Int.le_refl 0), s0, itoa_f _ ha, Option.bind_some, w0, List.length_nil, List.length_cons, List.nil_append, if_pos (lt47_of (show 0 + (0 + 1) < 2199023255552 by omega))]
  refine Lv.step (g := fun k n => impl_PlaneText.s5 k (impl_PlaneText.l5 k n) p 1 [mkS (Lib.itoa p.a)]) ?_ (fun _ _ => rfl)
  simp only [impl_PlaneText.s5, decide_eq_true_eq, if_pos (show (1 : Int) < 4 by omega), if_pos (show (0 : Int) ≤ 1 by omega), s1, itoa_f _ hb, Option.bind_some, w1, List.length_nil, List.length_cons, List.cons_append, List.nil_append, if_pos (lt47_of (show 0 + 1 + (0 + 1) < 2199023255552 by omega))]
  refine Lv.step (g := fun k n => impl_PlaneText.s5 k (impl_PlaneText.l5 k n) p 2 [mkS (Lib.itoa p.a), mkS (Lib.itoa p.b)]) ?_ (fun _ _ => rfl)
  simp only [impl_PlaneText.s5, decide_eq_true_eq, if_pos (show (2 : Int) < 4 by omega), if_pos (show (0 : Int) ≤ 2 by omega), s2, itoa_f _ hc, Option.bind_some, w2, List.length_nil, List.length_cons, List.cons_append, List.nil_append, if_pos (lt47_of (show 0 + 1 + 1 + (0 + 1) < 2199023255552 by omega))]
  refine Lv.step (g := fun k n => impl_PlaneText.s5 k (impl_PlaneText.l5 k n) p 3 [mkS (Lib.itoa p.a), mkS (Lib.itoa p.b), mkS (Lib.itoa p.c)]) ?_ (fun _ _ => rfl)
  simp only [impl_PlaneText.s5, decide_eq_true_eq, if_pos (show (3 : Int) < 4 by omega), if_pos (show (0 : Int) ≤ 3 by omega), s3, itoa_f _ hd, Option.bind_some, w3, List.length_nil, List.length_cons, List.cons_append, List.nil_append, if_pos (lt47_of (show 0 + 1 + 1 + 1 + (0 + 1) < 2199023255552 by omega))]
  refine Lv.step (g := fun k n => impl_PlaneText.s5 k (impl_PlaneText.l5 k n) p 4 [mkS (Lib.itoa p.a), mkS (Lib.itoa p.b), mkS (Lib.itoa p.c), mkS (Lib.itoa p.d)]) ?_ (fun _ _ => rfl)
  simp only [impl_PlaneText.s5, decide_eq_true_eq, if_neg (show ¬ (4 : Int) < 4 by omega)]
  exact .now fun _ _ => rfl
def pt_txt (p : S4) : List UInt8 := if okp p = true then txt p else []
theorem pt_bd {p : S4} (h : okp p = true) : p.a.natAbs < 10000000000000000 ∧ p.b.natAbs < 10000000000000000 ∧ p.c.natAbs < 10000000000000000 ∧ p.d.natAbs < 10000000000000000 := by
  simp only [okp, decide_eq_true_eq] at h; unfold PlOk at h; omega
theorem pt_impl (p : S4) : Ev (fun k => impl_PlaneText.f k p) (mkS (pt_txt p)) := by
  unfold impl_PlaneText.f
  refine (impl_PlaneOk_ev p).bind ?_
  unfold pt_txt
  cases h : okp p with
  | false => simp only [Bool.not_false, if_true, Bool.false_eq_true, if_false]; exact .now fun _ => rfl
  | true =>
    obtain ⟨ha, hb, hc, hd⟩ := pt_bd h
    simp only [Bool.not_true, Bool.false_eq_true, if_false, if_true]
    refine (pt_l5 ha hb hc hd).ev.bind ?_
    simp only [join_f _ ha hb hc hd, Option.bind_some]
    exact .now fun _ => rfl
def st_txt (p : S4) : List UInt8 := if spk p = true then txt p else []
theorem st_bd {p : S4} (h : spk p = true) : p.a.natAbs < 10000000000000000 ∧ p.b.natAbs < 10000000000000000 ∧ p.c.natAbs < 10000000000000000 ∧ p.d.natAbs < 10000000000000000 := by
  simp only [spk, decide_eq_true_eq, Bool.and_eq_true] at h; omega
theorem mkS_sub (l : List UInt8) (i j : Nat) : (mkS l).extract i j = mkS ((l.take j).drop i) := by
  apply ByteArray.ext
  simp only [ByteArray.data_extract]
  apply Array.ext'
  simp only [mkS, Array.toList_extract, List.extract_eq_take_drop, List.drop_take]
theorem mkS_beq (a b : List UInt8) : ((mkS a).toList == (mkS b).toList) = decide (a = b) := by
  rw [ByteArray.toList_eq, ByteArray.toList_eq]
  simp only [mkS]
  rw [Bool.eq_iff_iff, beq_iff_eq, decide_eq_true_eq]
theorem mkS_self (s : ByteArray) : s = mkS s.data.toList := by
  apply ByteArray.ext
  simp [mkS]
def isDb (c : UInt8) : Bool := decide (48 ≤ c.toNat ∧ c.toNat ≤ 57)
def hor (x : Nat) (l : List UInt8) : Nat := l.foldl (fun x c => 10 * x + (c.toNat - 48)) x
theorem hor_app (x : Nat) (a b : List UInt8) : hor x (a ++ b) = hor (hor x a) b := by simp [hor, List.foldl_append]
theorem hor_nil (x : Nat) : hor x [] = x := rfl
theorem hor_cons (x : Nat) (c : UInt8) (l : List UInt8) : hor x (c :: l) = hor (10 * x + (c.toNat - 48)) l := by unfold hor; exact List.foldl_cons ..
theorem hor_eq : ∀ (l : List UInt8) (x : Nat), hor x l = x * 10 ^ l.length + hor 0 l
  | [], x => by simp [hor]
  | c :: l, x => by
    have h1 := hor_eq l (10 * x + (c.toNat - 48))
    have h2 := hor_eq l (10 * 0 + (c.toNat - 48))
    rw [hor_cons, hor_cons, h1, h2, List.length_cons, Nat.pow_succ]
    generalize 10 ^ l.length = p
    generalize c.toNat - 48 = q
    generalize hor 0 l = r
    rw [Nat.add_mul, Nat.mul_zero, Nat.zero_add, Nat.add_assoc, Nat.mul_comm 10 x, Nat.mul_assoc, Nat.mul_comm 10 p]
theorem hor_lt : ∀ {l : List UInt8}, l.all isDb = true → hor 0 l < 10 ^ l.length
  | [], _ => by simp [hor]
  | c :: l, h => by
    simp only [List.all_cons, Bool.and_eq_true, isDb, decide_eq_true_eq] at h
    have := hor_lt (l := l) h.2
    rw [hor_cons, hor_eq l, Nat.mul_zero, Nat.zero_add, List.length_cons, Nat.pow_succ]
    have h9 : c.toNat - 48 ≤ 9 := by omega
    have := Nat.mul_le_mul_right (10 ^ l.length) h9
    omega
theorem dB_toNat {n : Nat} (h : n < 10) : (dB n).toNat = 48 + n := by unfold dB; rw [UInt8.toNat_ofNat']; omega
theorem dec_all : ∀ u : Nat, (Lib.decDigits u).all isDb = true := by
  intro u
  induction u using Nat.strongRecOn with
  | ind u ih =>
    have d1 : ∀ q, q < 10 → isDb (dB q) = true := fun q hq => by simp only [isDb, decide_eq_true_eq, dB_toNat hq]; omega
    by_cases h : u < 10
    · rw [dec_lt h]; simp [d1 u h]
    · rw [dec_ge (by omega), List.all_append, ih (u / 10) (by omega)]; simp [d1 _ (Nat.mod_lt u (by omega))]
theorem hor_dec : ∀ u : Nat, hor 0 (Lib.decDigits u) = u := by
  intro u
  induction u using Nat.strongRecOn with
  | ind u ih =>
    by_cases h : u < 10
    · rw [dec_lt h, hor_cons, hor_nil, dB_toNat h]; omega
    · rw [dec_ge (by omega), hor_app, ih (u / 10) (by omega), hor_cons, hor_nil, dB_toNat (Nat.mod_lt u (by omega))]; omega
theorem dec_len : ∀ (k u : Nat), u < 10 ^ (k + 1) → (Lib.decDigits u).length ≤ k + 1
  | 0, u, h => by rw [dec_lt (by omega)]; simp
  | k + 1, u, h => by
    by_cases c : u < 10
    · rw [dec_lt c]; simp
    · rw [dec_ge (by omega), List.length_append, List.length_singleton]
      have := dec_len k (u / 10) (by rw [Nat.pow_succ] at h; omega)
      omega
theorem dec_len9 {u : Nat} : (Lib.decDigits u).length ≤ 9 ↔ u ≤ 999999999 := by
  constructor
  · intro h
    have h1 := hor_lt (dec_all u)
    rw [hor_dec] at h1
    have : 10 ^ (Lib.decDigits u).length ≤ 10 ^ 9 := Nat.pow_le_pow_right (by omega) h
    omega
  · intro h; exact dec_len 8 u (by omega)
def sgnB (l : List UInt8) : Bool := l.head? == some 45
def digs (l : List UInt8) : List UInt8 := if sgnB l = true then l.tail else l
def prs (l : List UInt8) : Int := if sgnB l = true then -(hor 0 (digs l) : Int) else (hor 0 (digs l) : Int)
theorem dec_head (u : Nat) : sgnB (Lib.decDigits u) = false := by
  have h1 := dec_all u
  have h2 := dec_ne u
  cases hq : Lib.decDigits u with
  | nil => exact absurd hq h2
  | cons c l =>
    rw [hq] at h1
    simp only [List.all_cons, Bool.and_eq_true, isDb, decide_eq_true_eq] at h1
    simp only [sgnB, List.head?_cons, beq_eq_false_iff_ne, ne_eq, Option.some.injEq]
    intro e
    subst e
    have : (45 : UInt8).toNat = 45 := rfl
    omega
theorem itoa_pos {n : Int} (h : ¬ n < 0) : Lib.itoa n = Lib.decDigits n.natAbs := by unfold Lib.itoa; rw [if_neg h, show n.toNat = n.natAbs by omega]
theorem itoa_neg' {n : Int} (h : n < 0) : Lib.itoa n = 45 :: Lib.decDigits n.natAbs := by unfold Lib.itoa; rw [if_pos h]
theorem sgn_itoa (n : Int) : sgnB (Lib.itoa n) = decide (n < 0) := by
  by_cases h : n < 0
  · rw [itoa_neg' h]; simp [sgnB, h]
  · rw [itoa_pos h, dec_head]; simp [h]
theorem digs_itoa (n : Int) : digs (Lib.itoa n) = Lib.decDigits n.natAbs := by
  unfold digs
  rw [sgn_itoa]
  by_cases h : n < 0
  · rw [if_pos (by simp [h]), itoa_neg' h]; rfl
  · rw [if_neg (by simp [h]), itoa_pos h]
theorem prs_itoa (n : Int) : prs (Lib.itoa n) = n := by
  unfold prs
  rw [digs_itoa, hor_dec, sgn_itoa]
  by_cases h : n < 0
  · rw [if_pos (by simp [h])]; omega
  · rw [if_neg (by simp [h])]; omega
def numW (w : List UInt8) : Option Int := if (prs w).natAbs ≤ 999999999 ∧ Lib.itoa (prs w) = w then some (prs w) else none
theorem numW_itoa {n : Int} (h : n.natAbs ≤ 999999999) : numW (Lib.itoa n) = some n := by
  unfold numW; rw [prs_itoa, if_pos ⟨h, rfl⟩]
def gR (l : List UInt8) : List Int := if h : l = [] then [] else (hor 0 (l.drop (l.length - 4)) : Int) :: gR (l.take (l.length - 4))
termination_by l.length
decreasing_by
  have : 0 < l.length := List.length_pos_iff.2 h
  rw [List.length_take]; omega
theorem gR_nil : gR [] = [] := by unfold gR; simp
theorem gR_ne {l : List UInt8} (h : l ≠ []) : gR l = (hor 0 (l.drop (l.length - 4)) : Int) :: gR (l.take (l.length - 4)) := by rw [gR, dif_neg h]
theorem gR_val : ∀ (n : Nat) (l : List UInt8), l.length ≤ n → l.all isDb = true → val (gR l) = (hor 0 l : Int) ∧ DG (gR l) ∧ (gR l).length ≤ l.length
  | 0, l, hn, _ => by
    have : l = [] := List.eq_nil_of_length_eq_zero (by omega)
    subst this
    rw [gR_nil]; exact ⟨rfl, DG.nil, by simp⟩
  | n + 1, l, hn, h => by
    by_cases h0 : l = []
    · subst h0; rw [gR_nil]; exact ⟨rfl, DG.nil, by simp⟩
    · have hl : 0 < l.length := List.length_pos_iff.2 h0
      have hsp : l.take (l.length - 4) ++ l.drop (l.length - 4) = l := List.take_append_drop _ _
      have h1 : (l.take (l.length - 4)).all isDb = true ∧ (l.drop (l.length - 4)).all isDb = true := by
        rw [← hsp, List.all_append, Bool.and_eq_true] at h; exact h
      obtain ⟨v1, v2, v3⟩ := gR_val n (l.take (l.length - 4)) (by rw [List.length_take]; omega) h1.1
      have b4 := hor_lt h1.2
      have l4 : (l.drop (l.length - 4)).length ≤ 4 := by rw [List.length_drop]; omega
      have b5 : hor 0 (l.drop (l.length - 4)) < 10000 := by
        have : 10 ^ (l.drop (l.length - 4)).length ≤ 10 ^ 4 := Nat.pow_le_pow_right (by omega) l4
        omega
      rw [gR_ne h0]
      refine ⟨?_, DG.cons ⟨by omega, by omega⟩ v2, by simp only [List.length_cons]; rw [List.length_take] at v3; omega⟩
      simp only [val, v1]
      have hh : hor 0 l = hor 0 (l.take (l.length - 4)) * 10 ^ (l.drop (l.length - 4)).length + hor 0 (l.drop (l.length - 4)) := by
        conv => lhs; rw [← hsp]
        rw [hor_app, hor_eq]
      by_cases c : 4 ≤ l.length
      · have e4 : (l.drop (l.length - 4)).length = 4 := by rw [List.length_drop]; omega
        rw [e4] at hh
        omega
      · have : l.take (l.length - 4) = [] := by rw [show l.length - 4 = 0 by omega]; rfl
        rw [this] at hh ⊢
        simp only [hor_nil, Nat.zero_mul, Nat.zero_add] at hh ⊢
        omega
theorem sgn_at {l : List UInt8} (h : 0 < l.length) : ((bAt (mkS l) ((0 : Int).toNat)) == 45) = sgnB l := by
  cases l with
  | nil => simp at h
  | cons c l =>
    have e : bAt (mkS (c :: l)) ((0 : Int).toNat) = (c.toNat : Int) := by rw [mkS_at]; rfl
    rw [e]
    simp only [sgnB, List.head?_cons]
    rw [Bool.eq_iff_iff, beq_iff_eq, beq_iff_eq, Option.some.injEq]
    constructor
    · intro h
      apply UInt8.toNat_inj.1
      have : (45 : UInt8).toNat = 45 := rfl
      omega
    · rintro rfl; rfl
theorem numV_nm {neg : Bool} {d : List Int} {u : Nat} (hd : val d = (u : Int)) : numV neg d = nm (if neg = true then -(u : Int) else (u : Int)) := by
  unfold numV nm
  rw [hd]
  cases neg with
  | true =>
    simp only [if_true, Bool.true_and, Int.toNat_natCast]
    have h1 : (-(u : Int)).natAbs = u := by omega
    have h2 : decide ((u : Int) ≠ 0) = decide (-(u : Int) < 0) := by
      rw [decide_eq_decide]; omega
    rw [h1, h2]
  | false =>
    simp only [Bool.false_eq_true, if_false, Bool.false_and, Int.toNat_natCast]
    have h1 : (u : Int).natAbs = u := by omega
    have h2 : decide ((u : Int) < 0) = false := decide_eq_false (by omega)
    rw [h1, h2]
def pnV (l : List UInt8) : Nm × Bool × Unit := if digs l ≠ [] ∧ (digs l).all isDb = true ∧ Lib.itoa (prs l) = l then (nm (prs l), true, ()) else (⟨false, []⟩, false, ())
theorem prs_abs (l : List UInt8) : (prs l).natAbs = hor 0 (digs l) := by unfold prs; split <;> omega
theorem pn_no {l : List UInt8} (h : ¬ (digs l ≠ [] ∧ (digs l).all isDb = true)) : pnV l = (⟨false, []⟩, false, ()) := by
  unfold pnV; rw [if_neg (fun h2 => h ⟨h2.1, h2.2.1⟩)]
theorem val_drop_le {d : List Int} (hd : DG d) (i : Nat) : 0 ≤ val (d.drop i) ∧ val (d.drop i) ≤ val d := by
  have h0 := val_nn (hd.drop i)
  have h1 := val_nn (hd.take i)
  have h2 := val_app (d.take i) (d.drop i)
  rw [List.take_append_drop] at h2
  have h3 := P_one_le (d.take i).length
  have h4 : 1 * val (d.drop i) ≤ P (d.take i).length * val (d.drop i) := Int.mul_le_mul_of_nonneg_right h3 h0
  omega
theorem Small_l6 {d : List Int} {b : Nm} (hd : DG d) (hl : d.length ≤ 5) (hv : val d < 1000000000000) : ∀ m : Nat, m ≤ d.length → Lv (fun k n => spec_Small.l6 k n d (val (d.drop m)) ((m : Int) - 1) b) (.inr (((), val d, ()), (b, ()))) := by
  intro m
  induction m with
  | zero =>
    intro _
    refine Lv.step (g := fun k n => spec_Small.s6 k (spec_Small.l6 k n) d (val (d.drop 0)) (((0 : Nat) : Int) - 1) b) ?_ (fun _ _ => rfl)
    simp only [spec_Small.s6, decide_eq_true_eq, if_neg (show ¬ ((0 : Nat) : Int) - 1 ≥ 0 by omega), List.drop_zero]
    exact .now fun _ _ => rfl
  | succ m ih =>
    intro hm
    have hm' : m < d.length := by omega
    have e1 : ((m + 1 : Nat) : Int) - 1 = (m : Int) := by omega
    have vd := val_drop hm'
    have b1 := val_drop_le hd (m + 1)
    have b0 := val_drop_le hd m
    have hdm := hd d[m] (List.getElem_mem hm')
    have w : W ((m : Int) - 1) = (m : Int) - 1 := W_id (by omega) (by omega)
    have u1 : U (val (d.drop (m + 1)) * 10000) = val (d.drop (m + 1)) * 10000 := U_id (by omega) (by omega)
    have u2 : U d[m] = d[m] := U_id (by omega) (by omega)
    have u3 : U (val (d.drop (m + 1)) * 10000 + d[m]) = val (d.drop m) := by rw [U_id (by omega) (by omega)]; omega
    rw [e1]
    refine Lv.step (g := fun k n => spec_Small.s6 k (spec_Small.l6 k n) d (val (d.drop (m + 1))) (m : Int) b) ?_ (fun _ _ => rfl)
    simp only [spec_Small.s6, decide_eq_true_eq, if_pos (show (m : Int) ≥ 0 by omega), if_neg (show ¬ val (d.drop (m + 1)) > 922337203685477 by omega), if_pos (show (m : Int) < (d.length : Int) by omega), rd_get hm', u1, u2, u3, w]
    exact ih (by omega)
theorem Small_ev {x : Int} (h : x.natAbs < 1000000000000) : Ev (fun k => spec_Small.f k (nm x)) (x, true, ()) := by
  unfold spec_Small.f
  have hneg : decide (x < 0) = true → x.natAbs ≠ 0 := fun hh => by simp only [decide_eq_true_eq] at hh; omega
  refine (mag_dg (neg := decide (x < 0)) (by omega) hneg).bind ?_
  have hlen := dg_len12 h
  have hv : val (dg x.natAbs) = (x.natAbs : Int) := dg_val _
  have w : W (((dg x.natAbs).length : Int) - 1) = ((dg x.natAbs).length : Int) - 1 := W_id (by omega) (by omega)
  have l6 := Small_l6 (d := dg x.natAbs) (b := nm x) (dg_DG _) (by omega) (by omega) (dg x.natAbs).length (Nat.le_refl _)
  rw [List.drop_length] at l6
  have v0 : val [] = 0 := rfl
  rw [v0, hv] at l6
  simp only [decide_eq_true_eq, if_neg (show ¬ ((dg x.natAbs).length : Int) > 5 by omega), w]
  refine l6.ev.bind ?_
  refine (sign_dg (neg := decide (x < 0)) (by omega) hneg).bind ?_
  by_cases hn : x < 0
  · have e1 : W (0 - W (U ((x.natAbs : Int) - 1))) = 1 - (x.natAbs : Int) := by
      rw [U_id (by omega) (by omega), W_id (x := (x.natAbs : Int) - 1) (by omega) (by omega), W_id (by omega) (by omega)]; omega
    have e2 : W (1 - (x.natAbs : Int) - 1) = x := by rw [W_id (by omega) (by omega)]; omega
    simp only [hn, decide_true, if_true, if_neg (show ¬ (x.natAbs : Int) > 9223372036854775808 by omega), e1, e2]
    exact .now fun _ => rfl
  · have e2 : W (x.natAbs : Int) = x := by rw [W_id (by omega) (by omega)]; omega
    simp only [hn, decide_false, Bool.false_eq_true, if_false, if_neg (show ¬ (x.natAbs : Int) ≥ 9223372036854775808 by omega), e2]
    exact .now fun _ => rfl
theorem itoa_len10 {n : Int} (h : n.natAbs ≤ 999999999) : (Lib.itoa n).length ≤ 10 := by
  have := dec_len9.2 h
  by_cases hn : n < 0
  · rw [itoa_neg' hn, List.length_cons]; omega
  · rw [itoa_pos hn]; omega
theorem Small_no (k : Nat) : ∃ r, Ev (fun k => spec_Small.f k (⟨false, []⟩ : Nm)) r := ⟨(0, true, ()), by
  have := Small_ev (x := 0) (by decide)
  have e : nm 0 = (⟨false, []⟩ : Nm) := by unfold nm; rw [show (0 : Int).natAbs = 0 from rfl, dg_zero]; rfl
  rw [e] at this; exact this⟩
theorem parse_dec : ∀ (l : List UInt8) (acc : Nat), l.all isDb = true → hor acc l < 9223372036854775808 → Lib.parseUint10 acc l = .ok (hor acc l)
  | [], acc, _, _ => rfl
  | c :: l, acc, h, hb => by
    simp only [List.all_cons, Bool.and_eq_true, isDb, decide_eq_true_eq] at h
    rw [hor_cons] at hb ⊢
    have h1 : 10 * acc + (c.toNat - 48) ≤ hor (10 * acc + (c.toNat - 48)) l := by
      rw [hor_eq]
      have : 0 < 10 ^ l.length := Nat.pow_pos (by omega)
      have := Nat.le_mul_of_pos_right (10 * acc + (c.toNat - 48)) this
      omega
    have ih := parse_dec l (10 * acc + (c.toNat - 48)) h.2 hb
    unfold Lib.parseUint10
    rw [if_pos h.1, if_neg (by omega), if_neg (by omega), show acc * 10 + (c.toNat - 48) = 10 * acc + (c.toNat - 48) by omega]
    exact ih
theorem mag_dec {u : Nat} (h : u < 9223372036854775808) : Lib.parseMag (Lib.decDigits u) = .ok u := by
  unfold Lib.parseMag
  rw [if_neg (dec_ne u), parse_dec _ 0 (dec_all u) (by rw [hor_dec]; exact h), hor_dec]
theorem atoi_itoa {n : Int} (h : n.natAbs ≤ 999999999) : Lib.atoiAll (Lib.itoa n) = .ok n := by
  by_cases hn : n < 0
  · rw [itoa_neg' hn]
    unfold Lib.atoiAll
    have e45 : (45 : UInt8).toNat = 45 := rfl
    simp only [e45, or_true, if_true, mag_dec (show n.natAbs < 9223372036854775808 by omega), not_true_eq_false, false_and, if_false, true_and, if_neg (show ¬ 9223372036854775808 < n.natAbs by omega)]
    congr 1; omega
  · rw [itoa_pos hn]
    have h1 := dec_all n.natAbs
    have h2 := dec_ne n.natAbs
    have h3 := mag_dec (show n.natAbs < 9223372036854775808 by omega)
    cases hq : Lib.decDigits n.natAbs with
    | nil => exact absurd hq h2
    | cons c l =>
      rw [hq] at h1 h3
      simp only [List.all_cons, Bool.and_eq_true, isDb, decide_eq_true_eq] at h1
      unfold Lib.atoiAll
      have c43 : ¬ c.toNat = 43 := by omega
      have c45 : ¬ c.toNat = 45 := by omega
      simp only [c43, c45, or_self, if_false, h3, not_false_eq_true, true_and, if_neg (show ¬ 9223372036854775808 ≤ n.natAbs by omega), false_and]
      congr 1; omega
theorem trim_itoa (n : Int) : Lib.trimPrefix (Lib.itoa n) [45] = Lib.decDigits n.natAbs := by
  unfold Lib.trimPrefix Lib.hasPrefix
  by_cases hn : n < 0
  · rw [itoa_neg' hn, if_pos (by simp [List.isPrefixOf])]; rfl
  · rw [itoa_pos hn, if_neg]
    have := dec_head n.natAbs
    cases hq : Lib.decDigits n.natAbs with
    | nil => simp [List.isPrefixOf]
    | cons c l =>
      rw [hq] at this
      simp only [sgnB, List.head?_cons, beq_eq_false_iff_ne, ne_eq, Option.some.injEq] at this
      simp only [List.isPrefixOf, Bool.and_true, beq_iff_eq]
      exact fun e => this e.symm
theorem m45 : (⟨#[45]⟩ : ByteArray) = mkS [45] := rfl
theorem mkS_data (l : List UInt8) : (mkS l).data.toList = l := by simp [mkS]
theorem numberOf_ev {l : List UInt8} (hl : l.length ≤ 1048576) : Ev (fun k => impl_numberOf.f k (mkS l)) (match numW l with | some n => (n, true, ()) | none => (0, false, ())) := by
  unfold impl_numberOf.f
  have ha : ∀ k, strconv_Atoi.f k (mkS l) = some (match Lib.atoiAll l with | .ok v => (v, false, ()) | .range => (Lib.atoiSat l, true, ()) | _ => (0, true, ())) := fun k => by
    unfold strconv_Atoi.f
    rw [if_pos (by rw [mkS_size]; omega), mkS_data]
    rfl
  have ht : ∀ k, strings_TrimPrefix.f k (mkS l) (⟨#[45]⟩ : ByteArray) = some (mkS (Lib.trimPrefix l [45])) := fun k => by
    unfold strings_TrimPrefix.f; rw [mkS_data]; rfl
  simp only [ha, Option.bind_some]
  cases hq : Lib.atoiAll l
  case ok v =>
    obtain ⟨vb0, vb1⟩ := Lib.atoiAll_bounds hq
    have hi : ∀ k, strconv_Itoa.f k v = some (mkS (Lib.itoa v)) := fun k => by
      unfold strconv_Itoa.f; rw [if_pos ⟨by omega, by omega⟩]; rfl
    simp only [Bool.false_eq_true, if_false, ht, Option.bind_some, mkS_size, decide_eq_true_eq]
    cases hw : numW l with
    | some n =>
      unfold numW at hw
      split at hw
      · rename_i h
        cases hw
        have hv : v = prs l := by
          have := atoi_itoa h.1
          rw [h.2, hq] at this
          cases this; rfl
        subst hv
        have htl : (Lib.trimPrefix l [45]).length ≤ 9 := by
          have := trim_itoa (prs l)
          rw [h.2] at this
          rw [this]; exact dec_len9.2 h.1
        simp only [if_neg (show ¬ ((Lib.trimPrefix l [45]).length : Int) > 9 by omega), hi, Option.bind_some, h.2, beq_self_eq_true, Bool.not_true, Bool.false_eq_true, if_false]
        exact .now fun _ => rfl
      · cases hw
    | none =>
      by_cases c9 : ((Lib.trimPrefix l [45]).length : Int) > 9
      · simp only [if_pos c9]; exact .now fun _ => rfl
      · simp only [if_neg c9, hi, Option.bind_some, mkS_beq]
        by_cases ce : Lib.itoa v = l
        · exfalso
          have h1 : v.natAbs ≤ 999999999 := by
            have := trim_itoa v
            rw [ce] at this
            rw [this] at c9
            exact dec_len9.1 (by omega)
          have := numW_itoa h1
          rw [ce, hw] at this; cases this
        · simp only [ce, decide_false, Bool.not_false, if_true]
          exact .now fun _ => rfl
  case range =>
    have : numW l = none := by
      cases hw : numW l with
      | none => rfl
      | some n =>
        unfold numW at hw
        split at hw
        · rename_i h; rw [← h.2, atoi_itoa h.1] at hq; cases hq
        · cases hw
    rw [this]
    simp only [if_true]
    exact .now fun _ => rfl
  · skip
    have : numW l = none := by
      cases hw : numW l with
      | none => rfl
      | some n =>
        unfold numW at hw
        split at hw
        · rename_i h; rw [← h.2, atoi_itoa h.1] at hq; cases hq
        · cases hw
    rw [this]
    simp only [if_true]
    exact .now fun _ => rfl
def spl : List UInt8 → List (List UInt8)
  | [] => [[]]
  | c :: l => if c = 32 then [] :: spl l else (match spl l with | [] => [[c]] | w :: ws => (c :: w) :: ws)
theorem spl_pre : ∀ (a : List UInt8), (∀ c ∈ a, c ≠ 32) → ∀ b, spl (a ++ 32 :: b) = a :: spl b
  | [], _, b => by rw [List.nil_append, spl, if_pos rfl]
  | c :: a, h, b => by
    rw [List.cons_append, spl, if_neg (h c (by simp)), spl_pre a (fun x hx => h x (List.mem_cons_of_mem _ hx)) b]
theorem spl_all : ∀ (a : List UInt8), (∀ c ∈ a, c ≠ 32) → spl a = [a]
  | [], _ => rfl
  | c :: a, h => by rw [spl, if_neg (h c (by simp)), spl_all a (fun x hx => h x (List.mem_cons_of_mem _ hx))]
theorem spl_mem : ∀ (l : List UInt8) (w : List UInt8), w ∈ spl l → w.length ≤ l.length
  | [], w, h => by simp [spl] at h; subst h; simp
  | c :: l, w, h => by
    rw [spl] at h
    split at h
    · rcases List.mem_cons.1 h with rfl | h
      · simp
      · have := spl_mem l w h; simp only [List.length_cons]; omega
    · have ih := spl_mem l
      split at h
      · simp at h; subst h; simp
      · rename_i w0 ws hq
        rw [hq] at ih
        rcases List.mem_cons.1 h with rfl | h
        · have := ih w0 (by simp); simp only [List.length_cons]; omega
        · have := ih w (List.mem_cons_of_mem _ h); simp only [List.length_cons]; omega
theorem ixB_hit : ∀ (a b : List UInt8), (∀ c ∈ a, c ≠ 32) → Lib.indexByte (a ++ 32 :: b) 32 = (a.length : Int)
  | [], b, _ => by simp [Lib.indexByte]
  | c :: a, b, h => by
    have hc : (c == 32) = false := by rw [beq_eq_false_iff_ne]; exact h c (by simp)
    have ih := ixB_hit a b (fun x hx => h x (List.mem_cons_of_mem _ hx))
    rw [List.cons_append, Lib.indexByte, hc, ih]
    simp only [Bool.false_eq_true, if_false, List.length_cons]
    rw [if_neg (by rw [beq_iff_eq]; omega)]; omega
theorem ixB_miss : ∀ (a : List UInt8), (∀ c ∈ a, c ≠ 32) → Lib.indexByte a 32 = -1
  | [], _ => rfl
  | c :: a, h => by
    have hc : (c == 32) = false := by rw [beq_eq_false_iff_ne]; exact h c (by simp)
    rw [Lib.indexByte, hc, ixB_miss a (fun x hx => h x (List.mem_cons_of_mem _ hx))]; rfl
theorem split_spl : ∀ (n : Nat) (l : List UInt8), l.length ≤ n → Lib.splitK [32] 0 (Lib.count l [32]) l = spl l := by
  intro n
  induction n with
  | zero =>
    intro l hl
    have : l = [] := List.eq_nil_of_length_eq_zero (by omega)
    subst this
    rfl
  | succ n ih =>
    intro l hl
    by_cases h : (32 : UInt8) ∈ l
    · obtain ⟨a, b, rfl, ha⟩ := List.eq_append_cons_of_mem h
      have ha' : ∀ c ∈ a, c ≠ 32 := fun c hc e => ha (e ▸ hc)
      have hix : Lib.index (a ++ 32 :: b) [32] = ((a.length : Nat) : Int) := by rw [Lib.index_one]; exact ixB_hit a b ha'
      have hd : (a ++ 32 :: b).drop (a.length + 1) = b := by simp
      have hd' : (a ++ 32 :: b).drop (a.length + [(32 : UInt8)].length) = b := hd
      rw [spl_pre a ha' b, Lib.count_hit (by simp) hix, hd', Nat.add_comm 1, Lib.splitK, hix, if_neg (by rw [beq_iff_eq]; omega), Int.toNat_natCast, Nat.add_zero, List.take_left', hd', ih b (by simp only [List.length_append, List.length_cons] at hl; omega)]
      rfl
    · have ha' : ∀ c ∈ l, c ≠ 32 := fun c hc e => h (e ▸ hc)
      have hix : Lib.index l [32] = -1 := by rw [Lib.index_one]; exact ixB_miss l ha'
      rw [spl_all l ha', Lib.count_miss hix, Lib.splitK]
theorem split_f (k : Nat) {l : List UInt8} (hl : l.length ≤ 1048576) : strings_Split.f k (mkS l) (⟨#[32]⟩ : ByteArray) = some ((spl l).map mkS) := by
  unfold strings_Split.f
  have e : Lib.splitB (⟨#[32]⟩ : ByteArray) 0 (Lib.countB (mkS l) (⟨#[32]⟩ : ByteArray)) (mkS l) = (spl l).map mkS := by
    have h1 := Lib.splitB_data (⟨#[32]⟩ : ByteArray) 0 (Lib.countB (mkS l) (⟨#[32]⟩ : ByteArray)) (mkS l)
    have h2 : Lib.splitK (⟨#[32]⟩ : ByteArray).data.toList 0 (Lib.countB (mkS l) (⟨#[32]⟩ : ByteArray)) (mkS l).data.toList = spl l := by
      have h3 : Lib.countB (mkS l) (⟨#[32]⟩ : ByteArray) = Lib.count l [32] := by
        show Lib.count (mkS l).data.toList [32] = _
        rw [mkS_data]
      rw [h3, mkS_data]
      exact split_spl _ l (Nat.le_refl _)
    rw [h2] at h1
    rw [← h1, List.map_map]
    have : (mkS ∘ fun x : ByteArray => x.data.toList) = id := funext fun b => (mkS_self b).symm
    rw [this, List.map_id]
  rw [e, if_pos ⟨by rw [mkS_size]; omega, by decide⟩]
theorem iNo {ws : List ByteArray} {i : Nat} (h4 : i < 4) (hi : i < ws.length) {w : List UInt8} (hw : ws.getD i default = mkS w) (hl : w.length ≤ 1048576) (hn : numW w = none) {b2 b5 : S4} :
    Lv (fun k m => impl_ParsePlane.l6 k m 4 (i : Int) b2 b5 ws) (.inl (((), false, ()), ((⟨0, 0, 0, 0⟩ : S4), ()))) := by
  have e1 := numberOf_ev hl
  rw [hn] at e1
  refine Lv.step (g := fun k m => impl_ParsePlane.s6 k (impl_ParsePlane.l6 k m) 4 (i : Int) b2 b5 ws) ?_ (fun _ _ => rfl)
  simp only [impl_ParsePlane.s6, decide_eq_true_eq, if_pos (show (i : Int) < 4 by omega), if_pos (Int.natCast_nonneg i), if_pos (show (i : Int) < (ws.length : Int) by omega), Int.toNat_natCast, if_pos hi, hw]
  refine Lv.bind e1 ?_
  simp only [Bool.not_false, if_true]
  exact .now fun _ _ => rfl
def put4 (p : S4) (i : Nat) (n : Int) : S4 := if i = 0 then ⟨n, p.b, p.c, p.d⟩ else if i = 1 then ⟨p.a, n, p.c, p.d⟩ else if i = 2 then ⟨p.a, p.b, n, p.d⟩ else ⟨p.a, p.b, p.c, n⟩
theorem iOk {ws : List ByteArray} {i : Nat} (h4 : i < 4) (hi : i < ws.length) {w : List UInt8} (hw : ws.getD i default = mkS w) (hl : w.length ≤ 1048576) {n : Int} (hn : numW w = some n) {b2 b5 : S4} {r : impl_ParsePlane.B6} (h : Lv (fun k m => impl_ParsePlane.l6 k m 4 ((i + 1 : Nat) : Int) b2 (put4 b5 i n) ws) r) :
    Lv (fun k m => impl_ParsePlane.l6 k m 4 (i : Int) b2 b5 ws) r := by
  have e1 := numberOf_ev hl
  rw [hn] at e1
  have w1 : W ((i : Int) + 1) = ((i + 1 : Nat) : Int) := by rw [W_id (by omega) (by omega)]; omega
  refine Lv.step (g := fun k m => impl_ParsePlane.s6 k (impl_ParsePlane.l6 k m) 4 (i : Int) b2 b5 ws) ?_ (fun _ _ => rfl)
  simp only [impl_ParsePlane.s6, decide_eq_true_eq, if_pos (show (i : Int) < 4 by omega), if_pos (Int.natCast_nonneg i), if_pos (show (i : Int) < (ws.length : Int) by omega), Int.toNat_natCast, if_pos hi, hw]
  refine Lv.bind e1 ?_
  simp only [Bool.not_true, Bool.false_eq_true, if_false, w1]
  unfold put4 at h
  match i, h4 with
  | 0, _ => simpa using h
  | 1, _ => simpa using h
  | 2, _ => simpa using h
  | 3, _ => simpa using h
theorem iEnd {ws : List ByteArray} {b2 b5 : S4} : Lv (fun k m => impl_ParsePlane.l6 k m 4 ((4 : Nat) : Int) b2 b5 ws) (.inr (((), (), ()), (b2, b5, ()))) := by
  refine Lv.step (g := fun k m => impl_ParsePlane.s6 k (impl_ParsePlane.l6 k m) 4 ((4 : Nat) : Int) b2 b5 ws) ?_ (fun _ _ => rfl)
  simp only [impl_ParsePlane.s6, decide_eq_true_eq, if_neg (show ¬ ((4 : Nat) : Int) < 4 by omega)]
  exact .now fun _ _ => rfl
def z4' : S4 := ⟨0, 0, 0, 0⟩
def pl4 (w0 w1 w2 w3 : List UInt8) : Option S4 := match numW w0, numW w1, numW w2, numW w3 with
  | some a, some b, some c, some d => some ⟨a, b, c, d⟩
  | _, _, _, _ => none
theorem iLoop (w0 w1 w2 w3 : List UInt8) (l0 : w0.length ≤ 1048576) (l1 : w1.length ≤ 1048576) (l2 : w2.length ≤ 1048576) (l3 : w3.length ≤ 1048576) (b2 : S4) : Lv (fun k m => impl_ParsePlane.l6 k m 4 0 b2 (⟨0, 0, 0, 0⟩ : S4) [mkS w0, mkS w1, mkS w2, mkS w3]) (match pl4 w0 w1 w2 w3 with | some p => .inr (((), (), ()), (b2, p, ())) | none => .inl (((), false, ()), ((⟨0, 0, 0, 0⟩ : S4), ()))) := by
  unfold pl4
  cases h0 : numW w0 with
  | none => exact iNo (i := 0) (by omega) (by simp) (w := w0) rfl l0 h0
  | some a =>
    refine iOk (i := 0) (by omega) (by simp) (w := w0) rfl l0 h0 ?_
    cases h1 : numW w1 with
    | none => exact iNo (i := 1) (by omega) (by simp) (w := w1) rfl l1 h1
    | some b =>
      refine iOk (i := 1) (by omega) (by simp) (w := w1) rfl l1 h1 ?_
      cases h2 : numW w2 with
      | none => exact iNo (i := 2) (by omega) (by simp) (w := w2) rfl l2 h2
      | some c =>
        refine iOk (i := 2) (by omega) (by simp) (w := w2) rfl l2 h2 ?_
        cases h3 : numW w3 with
        | none => exact iNo (i := 3) (by omega) (by simp) (w := w3) rfl l3 h3
        | some d => exact iOk (i := 3) (by omega) (by simp) (w := w3) rfl l3 h3 iEnd
def ppV (l : List UInt8) : S4 × Bool × Unit := match spl l with
  | [w0, w1, w2, w3] => (match pl4 w0 w1 w2 w3 with | some p => if okp p = true then (p, true, ()) else (z4', false, ()) | none => (z4', false, ()))
  | _ => (z4', false, ())
theorem len4 {α : Type} {l : List α} (h : l.length = 4) : ∃ a b c d, l = [a, b, c, d] := by
  match l, h with
  | [a, b, c, d], _ => exact ⟨a, b, c, d, rfl⟩
theorem ppV_no {l : List UInt8} (h : ¬ (spl l).length = 4) : ppV l = (z4', false, ()) := by
  unfold ppV
  split
  · rename_i hq; rw [hq] at h; exact absurd rfl h
  · rfl
theorem if_neg_ev {α : Type} {c : Prop} [Decidable c] (h : ¬ c) {f g : Nat → Option α} {r : α} : Ev (fun k => if c then f k else g k) r = Ev g r := by simp only [if_neg h]
theorem iPP_ev {l : List UInt8} (hl : l.length ≤ 1048576) : Ev (fun k => impl_ParsePlane.f k (mkS l)) (ppV l) := by
  unfold impl_ParsePlane.f
  simp only [split_f _ hl, Option.bind_some, List.length_map, ne_iff]
  by_cases c : (spl l).length = 4
  · obtain ⟨w0, w1, w2, w3, hq⟩ := len4 c
    have e : ppV l = (match pl4 w0 w1 w2 w3 with | some p => if okp p = true then (p, true, ()) else (z4', false, ()) | none => (z4', false, ())) := by unfold ppV; rw [hq]
    have hm : ∀ w ∈ [w0, w1, w2, w3], w.length ≤ 1048576 := fun w hw => by have := spl_mem l w (hq ▸ hw); omega
    rw [e, hq]
    simp only [List.map_cons, List.map_nil, List.length_cons, List.length_nil]
    rw [if_neg_ev (by decide)]
    refine (iLoop w0 w1 w2 w3 (hm _ (by simp)) (hm _ (by simp)) (hm _ (by simp)) (hm _ (by simp)) _).ev.bind ?_
    cases hp : pl4 w0 w1 w2 w3 with
    | none => exact .now fun _ => rfl
    | some p =>
      show Ev _ (if okp p = true then (p, true, ()) else (z4', false, ()))
      refine (impl_PlaneOk_ev p).bind ?_
      cases ho : okp p with
      | false => exact .now fun _ => rfl
      | true => exact .now fun _ => rfl
  · rw [ppV_no c]
    have ci : ¬ (((spl l).length : Nat) : Int) = 4 := by omega
    simp only [ne_eq, ci, not_false_eq_true, if_true]
    exact .now fun _ => rfl
theorem dec_str (b : ByteArray) : aStr.dec (aStr.enc b) = some b := rfl
theorem rep_str {w : World} {A : Nat → Prop} (b : ByteArray) : Rep w A (.string b) (aStr.enc b) := Rep.v _
end Go.Proofs.YtalkkenkeilmpaaGreatDoor.Q
