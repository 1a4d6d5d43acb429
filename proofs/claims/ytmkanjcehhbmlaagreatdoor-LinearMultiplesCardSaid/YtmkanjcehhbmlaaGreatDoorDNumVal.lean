/- What add, compare, parse and text compute, as numbers. -/
import Derived.Lib.Repeat
import Derived.Test.YtmkanjcehhbmlaaGreatDoorDBuild
import Derived.Test.YtmkanjcehhbmlaaGreatDoorDFmt
import Derived.Test.YtmkanjcehhbmlaaGreatDoorDGN2
import Derived.Test.YtmkanjcehhbmlaaGreatDoorDGW
import Derived.Test.YtmkanjcehhbmlaaGreatDoorDGW2
import Derived.Test.YtmkanjcehhbmlaaGreatDoorDNum
import Derived.Test.YtmkanjcehhbmlaaGreatDoorDNumAdd
import Derived.Test.YtmkanjcehhbmlaaGreatDoorDNumCmp
import Derived.Test.YtmkanjcehhbmlaaGreatDoorDNumParse
import Derived.Test.YtmkanjcehhbmlaaGreatDoorDNumText
import Derived.Test.YtmkanjcehhbmlaaGreatDoorDPrA4
import Derived.Test.YtmkanjcehhbmlaaGreatDoorDShelf
import Derived.Test.YtmkanjcehhbmlaaGreatDoorDSpec
import Derived.Test.YtmkanjcehhbmlaaGreatDoorDTab
import Derived.Test.YtmkanjcehhbmlaaGreatDoorDWLast
set_option linter.all false
set_option exponentiation.threshold 1200
section
namespace Go.Proofs.YtmkanjcehhbmlaaGreatDoor.Pr
set_option linter.unusedSimpArgs false
set_option linter.unusedVariables false
open Go.RowKit Go.Proofs.YtmkanjcehhbmlaaGreatDoorW.PrintWords Go.Proofs.YtmkanjcehhbmlaaGreatDoorW.PrintLast Go.Proofs.YtmkanjcehhbmlaaGreatDoorW.PrintMore
theorem yAt_rd (ys : List Int) (k : Nat) : yAt ys k = rd ys (k : Nat) := by
  unfold yAt
  split
  · rfl
  · rw [rd_above (by omega)]
theorem outL_Limbs (xs ys : List Int) (k : Nat) : Limbs (outL xs ys k) := fun x hx => by
  unfold outL at hx
  obtain ⟨j, _, rfl⟩ := List.mem_map.1 hx
  exact ⟨Int.emod_nonneg _ (by decide), Int.emod_lt_of_pos _ (by decide)⟩
theorem outL_val (xs ys : List Int) : ∀ k, lval (outL xs ys k) + (1000000000 : Int) ^ k * cyL xs ys k = lval (xs.take k) + lval (ys.take k)
  | 0 => by simp [outL, lval, cyL]
  | k + 1 => by
    have ih := outL_val xs ys k
    rw [outL_succ, lval_snoc, outL_len, cyL_succ, lval_take_succ, lval_take_succ, Int.pow_succ]
    have h1 : svL xs ys k = rd xs (k : Nat) + cyL xs ys k + rd ys (k : Nat) := by unfold svL; rw [yAt_rd]
    have h2 : svL xs ys k % 1000000000 + 1000000000 * (svL xs ys k / 1000000000) = svL xs ys k := Int.emod_add_mul_ediv _ _
    generalize (1000000000 : Int) ^ k = P at *
    generalize svL xs ys k % 1000000000 = u at *
    generalize svL xs ys k / 1000000000 = v at *
    generalize svL xs ys k = s at *
    grind
theorem addL'_val {xs ys : List Int} (hx : Limbs xs) (hy : Limbs ys) (hl : ys.length ≤ xs.length) : addL' xs ys = limbs (lval xs + lval ys).toNat := by
  have h1 := outL_val xs ys xs.length
  rw [List.take_length, List.take_of_length_le hl] at h1
  have h2 : lval (outL xs ys xs.length ++ [cyL xs ys xs.length]) = lval xs + lval ys := by rw [lval_snoc, outL_len]; exact h1
  have h3 := lval_nonneg hx
  have h4 := lval_nonneg hy
  clear h1
  unfold addL'
  refine trim_of ((outL_Limbs _ _ _).append (Limbs.mk ?_ Limbs.nil)) (by rw [h2]; omega)
  have := cyL_lim hx hy xs.length
  omega
theorem add_limbs (a b : Nat) : addL (limbs a) (limbs b) = limbs (a + b) := by
  unfold addL
  split
  · rw [addL'_val (limbs_Limbs _) (limbs_Limbs _) (by omega), lval_limbs, lval_limbs]
    congr 1; omega
  · rw [addL'_val (limbs_Limbs _) (limbs_Limbs _) (by omega), lval_limbs, lval_limbs]
    congr 1
theorem cmp3_add (a b c : Int) : cmp3 (a + c) (b + c) = cmp3 a b := by
  unfold cmp3
  by_cases h1 : a < b
  · rw [if_pos h1, if_pos (by omega)]
  · rw [if_neg h1, if_neg (by omega : ¬ a + c < b + c)]
    by_cases h2 : b < a
    · rw [if_pos h2, if_pos (by omega)]
    · rw [if_neg h2, if_neg (by omega)]
theorem cmp3_zero {a b : Int} (h : cmp3 a b = 0) : a = b := by
  unfold cmp3 at h
  split at h
  · simp at h
  · split at h
    · simp at h
    · omega
theorem cmp3_lt {a b : Int} (h : a < b) : cmp3 a b = -1 := by unfold cmp3; rw [if_pos h]
theorem cmp3_gt {a b : Int} (h : b < a) : cmp3 a b = 1 := by unfold cmp3; rw [if_neg (by omega), if_pos h]
theorem cmp3_self (a : Int) : cmp3 a a = 0 := by unfold cmp3; rw [if_neg (by omega), if_neg (by omega)]
theorem scan_step {p q P x y : Int} (hp : 0 ≤ p ∧ p < P) (hq : 0 ≤ q ∧ q < P) (h : x < y) : p + P * x < q + P * y := by
  have h1 : P * (x + 1) ≤ P * y := Int.mul_le_mul_of_nonneg_left (by omega) (by omega)
  rw [Int.mul_add] at h1
  omega
theorem take_lim {xs : List Int} (h : Limbs xs) (n : Nat) (hn : n ≤ xs.length) : 0 ≤ lval (xs.take n) ∧ lval (xs.take n) < (1000000000 : Int) ^ n := by
  refine ⟨lval_nonneg (h.take n), ?_⟩
  have := lval_lt (h.take n)
  rwa [List.length_take, Nat.min_eq_left hn] at this
theorem scan_val {xs ys : List Int} (hx : Limbs xs) (hy : Limbs ys) : ∀ n, n ≤ xs.length → n ≤ ys.length → scan xs ys n = cmp3 (lval (xs.take n)) (lval (ys.take n))
  | 0, _, _ => by simp [scan, lval, cmp3]
  | n + 1, h1, h2 => by
    have ih := scan_val hx hy n (by omega) (by omega)
    have e1 := take_lim hx n (by omega)
    have e2 := take_lim hy n (by omega)
    rw [scan, lval_take_succ, lval_take_succ]
    generalize (1000000000 : Int) ^ n = P at *
    split
    · rename_i h
      rw [cmp3_zero h, cmp3_add, ih]
    · rename_i h
      rcases Int.lt_trichotomy (rd xs (n : Nat)) (rd ys (n : Nat)) with h3 | h3 | h3
      · rw [cmp3_lt h3, cmp3_lt (scan_step e1 e2 h3)]
      · exact absurd (by rw [h3, cmp3_self]) h
      · rw [cmp3_gt h3, cmp3_gt (scan_step e2 e1 h3)]
theorem cmp_limbs (a b : Nat) : cmpL (limbs a) (limbs b) = cmp3 a b := by
  unfold cmpL
  split
  · rename_i h
    have hl := cmp3_zero h
    rw [scan_val (limbs_Limbs _) (limbs_Limbs _) _ (Nat.le_refl _) (by omega), List.take_length, List.take_of_length_le (by omega), lval_limbs, lval_limbs]
  · rename_i h
    rcases Nat.lt_trichotomy (limbs a).length (limbs b).length with h3 | h3 | h3
    · have : a < b := by
        rcases Nat.lt_or_ge a b with h4 | h4
        · exact h4
        · have := limbs_len_mono h4; omega
      rw [cmp3_lt (by omega), cmp3_lt (by omega)]
    · rw [h3, cmp3_self] at h; exact absurd rfl h
    · have : b < a := by
        rcases Nat.lt_or_ge b a with h4 | h4
        · exact h4
        · have := limbs_len_mono h4; omega
      rw [cmp3_gt (by omega), cmp3_gt (by omega)]
theorem foldl_val : ∀ (l : List UInt8) (acc : Nat), l.foldl (fun n c => 10 * n + (c.toNat - 48)) acc = acc * 10 ^ l.length + Sp.nvalL l
  | [], acc => by simp [Sp.nvalL]
  | c :: l, acc => by
    have h1 := foldl_val l (10 * acc + (c.toNat - 48))
    have h2 := foldl_val l (10 * 0 + (c.toNat - 48))
    unfold Sp.nvalL at h2 ⊢
    rw [List.foldl_cons, List.foldl_cons, h1, h2, List.length_cons, Nat.pow_succ]
    unfold Sp.nvalL
    grind
theorem nvalL_append (a b : List UInt8) : Sp.nvalL (a ++ b) = Sp.nvalL a * 10 ^ b.length + Sp.nvalL b := by
  have : Sp.nvalL (a ++ b) = b.foldl (fun n c => 10 * n + (c.toNat - 48)) (Sp.nvalL a) := by unfold Sp.nvalL; rw [List.foldl_append]
  rw [this, foldl_val]
theorem nvalL_cons (c : UInt8) (b : List UInt8) : Sp.nvalL (c :: b) = (c.toNat - 48) * 10 ^ b.length + Sp.nvalL b := by
  have := nvalL_append [c] b
  simpa [Sp.nvalL] using this
theorem nvalL_lt : ∀ (l : List UInt8), (∀ c ∈ l, Sp.isDig c = true) → Sp.nvalL l < 10 ^ l.length
  | [], _ => by simp [Sp.nvalL]
  | c :: l, h => by
    have ih := nvalL_lt l (fun c hc => h c (by simp [hc]))
    have hc := h c (by simp)
    unfold Sp.isDig at hc
    simp only [Bool.and_eq_true, decide_eq_true_eq] at hc
    rw [nvalL_cons, List.length_cons, Nat.pow_succ]
    have : (c.toNat - 48) * 10 ^ l.length ≤ 9 * 10 ^ l.length := Nat.mul_le_mul_right _ (by omega)
    generalize 10 ^ l.length = P at *
    omega
theorem chunk_app (l : List UInt8) (k : Nat) (hk : 9 * k < l.length) : chunkL l k ++ l.drop (l.length - 9 * k) = l.drop (l.length - 9 * (k + 1)) := by
  unfold chunkL
  obtain ⟨p, hp⟩ : ∃ p, l.length - 9 * k = p := ⟨_, rfl⟩
  rw [hp, show l.length - 9 * (k + 1) = p - 9 by omega]
  have h1 : l.drop (p - 9) = (l.take p ++ l.drop p).drop (p - 9) := by rw [List.take_append_drop]
  rw [h1, List.drop_append_of_le_length (by rw [List.length_take]; omega)]
theorem pow9 (k : Nat) : (((10 ^ (9 * k) : Nat)) : Int) = (1000000000 : Int) ^ k := by
  rw [Nat.pow_mul]
  simp
theorem rawL_val (l : List UInt8) : ∀ k, k ≤ rounds l → lval (rawL l k) = Sp.nvalL (l.drop (l.length - 9 * k))
  | 0, _ => by simp [rawL, lval, Sp.nvalL]
  | k + 1, h => by
    have hk : 9 * k < l.length := by unfold rounds at h; omega
    have ih := rawL_val l k (by omega)
    rw [rawL_succ, lval_snoc, rawL_len, ih, ← chunk_app l k hk, nvalL_append, List.length_drop, show l.length - (l.length - 9 * k) = 9 * k by omega]
    have := pow9 k
    generalize (1000000000 : Int) ^ k = P at *
    generalize 10 ^ (9 * k) = Q at *
    subst this
    simp
    grind
theorem rawL_Limbs (l : List UInt8) (hd : ∀ c ∈ l, Sp.isDig c = true) : ∀ k, k ≤ rounds l → Limbs (rawL l k) := fun k hk x hx => by
  unfold rawL at hx
  obtain ⟨j, hj, rfl⟩ := List.mem_map.1 hx
  have hj' : j < k := by simpa using hj
  have h1 := nvalL_lt _ (chunk_digs hd j)
  rw [chunk_len l j (by unfold rounds at hk; omega)] at h1
  have h2 : 10 ^ min 9 (l.length - 9 * j) ≤ 10 ^ 9 := Nat.pow_le_pow_right (by omega) (by omega)
  generalize 10 ^ min 9 (l.length - 9 * j) = P at *
  generalize Sp.nvalL (chunkL l j) = v at *
  omega
theorem parse_limbs (l : List UInt8) (hd : ∀ c ∈ l, Sp.isDig c = true) : parseL l = limbs (Sp.nvalL l) := by
  unfold parseL
  refine trim_of (rawL_Limbs l hd _ (Nat.le_refl _)) ?_
  rw [rawL_val l _ (Nat.le_refl _), show l.length - 9 * rounds l = 0 by unfold rounds; omega, List.drop_zero]
def zeros (n : Nat) : List UInt8 := List.replicate n 48
theorem repeatL_zeros : ∀ n, Lib.repeatL [48] n = zeros n
  | 0 => rfl
  | n + 1 => by rw [Lib.repeatL, repeatL_zeros n]; rfl
theorem dec_big {u : Nat} (h : ¬ u < 10) : Sp.decL u = Sp.decL (u / 10) ++ [UInt8.ofNat (48 + u % 10)] := by
  show Lib.decDigits u = _
  rw [Lib.decDigits, dif_neg h]
theorem dec_small {u : Nat} (h : u < 10) : Sp.decL u = [UInt8.ofNat (48 + u)] := by
  show Lib.decDigits u = _
  rw [Lib.decDigits, dif_pos h]
def pad (m x : Nat) : List UInt8 := zeros (m - (Sp.decL x).length) ++ Sp.decL x
theorem dec_pos (u : Nat) : 1 ≤ (Sp.decL u).length := by rw [show Sp.decL u = Lib.decDigits u from rfl, Lib.decDigits_length]; exact Lib.nDigits_pos u
theorem pad_succ {m x : Nat} (hm : 1 ≤ m) : pad (m + 1) x = pad m (x / 10) ++ [UInt8.ofNat (48 + x % 10)] := by
  unfold pad
  by_cases h : x < 10
  · rw [dec_small h, show x / 10 = 0 by omega, dec_small (by omega : 0 < 10), show x % 10 = x by omega]
    obtain ⟨m', rfl⟩ : ∃ m', m = m' + 1 := ⟨m - 1, by omega⟩
    simp only [List.length_singleton, Nat.add_sub_cancel]
    congr 1
    unfold zeros
    rw [List.replicate_succ']
    rfl
  · rw [dec_big h, List.length_append, List.length_singleton, ← List.append_assoc]
    congr 2
    rw [show m + 1 - ((Sp.decL (x / 10)).length + 1) = m - (Sp.decL (x / 10)).length by omega]
theorem dec_pad : ∀ (m L x : Nat), 1 ≤ m → 0 < L → x < 10 ^ m → Sp.decL (L * 10 ^ m + x) = Sp.decL L ++ pad m x
  | 0, _, _, h, _, _ => by omega
  | 1, L, x, _, hL, hx => by
    rw [dec_big (by omega), show (L * 10 ^ 1 + x) / 10 = L by omega, show (L * 10 ^ 1 + x) % 10 = x by omega]
    unfold pad
    rw [dec_small (by omega : x < 10)]
    rfl
  | m + 2, L, x, _, hL, hx => by
    have e1 : 10 ^ (m + 2) = 10 * 10 ^ (m + 1) := by rw [Nat.pow_succ 10 (m + 1), Nat.mul_comm]
    have ih := dec_pad (m + 1) L (x / 10) (by omega) hL (by rw [e1] at hx; generalize 10 ^ (m + 1) = P at *; omega)
    have hP : 1 ≤ 10 ^ (m + 1) := Nat.one_le_pow _ _ (by decide)
    have e2 : (L * 10 ^ (m + 2) + x) / 10 = L * 10 ^ (m + 1) + x / 10 := by
      rw [e1, ← Nat.mul_assoc, Nat.mul_comm L 10, Nat.mul_assoc]
      generalize L * 10 ^ (m + 1) = R
      omega
    have e3 : (L * 10 ^ (m + 2) + x) % 10 = x % 10 := by
      rw [e1, ← Nat.mul_assoc, Nat.mul_comm L 10, Nat.mul_assoc]
      generalize L * 10 ^ (m + 1) = R
      omega
    have e4 : ¬ L * 10 ^ (m + 2) + x < 10 := by
      rw [e1]
      have : 1 * 1 ≤ L * 10 ^ (m + 1) := Nat.mul_le_mul hL hP
      rw [← Nat.mul_assoc, Nat.mul_comm L 10, Nat.mul_assoc]
      generalize L * 10 ^ (m + 1) = R at *
      omega
    rw [dec_big e4, e2, e3, ih, show pad (m + 2) x = pad (m + 1) (x / 10) ++ [UInt8.ofNat (48 + x % 10)] from pad_succ (by omega), List.append_assoc]
theorem limbT_pad {xs : List Int} (hx : Limbs xs) {k : Nat} (hk : k + 1 < xs.length) : limbT xs (k + 1) = pad 9 (rd xs ((xs.length - 1 - (k + 1) : Nat) : Int)).toNat := by
  unfold limbT
  rw [if_pos (by omega)]
  unfold padZ pad dl
  rw [repeatL_zeros]
theorem rd_drop (xs : List Int) (i : Nat) (h : i < xs.length) : xs.drop i = rd xs (i : Nat) :: xs.drop (i + 1) := by
  rw [rd_nat, List.getD_eq_getElem?_getD, List.getElem?_eq_getElem h]
  exact List.drop_eq_getElem_cons h
theorem tkL_val {xs : List Int} (hx : Limbs xs) (h0 : 0 < xs.length) (htop : rd xs ((xs.length - 1 : Nat) : Int) ≠ 0) : ∀ k, k < xs.length → 0 < lval (xs.drop (xs.length - 1 - k)) ∧ tkL xs (List.range (k + 1)) = Sp.decL (lval (xs.drop (xs.length - 1 - k))).toNat
  | 0, _ => by
    have e1 : xs.drop (xs.length - 1 - 0) = [rd xs ((xs.length - 1 : Nat) : Int)] := by
      rw [Nat.sub_zero, rd_drop _ _ (by omega), List.drop_of_length_le (by omega)]
    have e2 : lval [rd xs ((xs.length - 1 : Nat) : Int)] = rd xs ((xs.length - 1 : Nat) : Int) := by simp [lval]
    have h1 := hx.rd ((xs.length - 1 : Nat) : Int)
    rw [e1, e2]
    refine ⟨by omega, ?_⟩
    show [] ++ limbT xs 0 = _
    unfold limbT
    rw [if_neg (by omega), Nat.sub_zero]
    rfl
  | k + 1, h => by
    obtain ⟨ih1, ih2⟩ := tkL_val hx h0 htop k (by omega)
    have hL := limbT_pad hx (k := k) (by omega)
    obtain ⟨i, hi⟩ : ∃ i, i = xs.length - 1 - (k + 1) := ⟨_, rfl⟩
    have hi2 : xs.length - 1 - k = i + 1 := by omega
    rw [hi2] at ih1 ih2
    rw [← hi] at hL
    have h1 := hx.rd (i : Nat)
    rw [← hi, rd_drop xs i (by omega), lval, List.range_succ, tkL_snoc, ih2, hL]
    generalize lval (xs.drop (i + 1)) = L at *
    generalize rd xs (i : Nat) = x at *
    refine ⟨by omega, ?_⟩
    have := dec_pad 9 L.toNat x.toNat (by omega) (by omega) (by omega)
    rw [show (x + 1000000000 * L).toNat = L.toNat * 10 ^ 9 + x.toNat by omega, this]
theorem text_limbs (n : Nat) : textL (limbs n) = Sp.decL n := by
  unfold textL
  split
  · rename_i h
    rw [(limbs_nil_iff n).1 h, dec_small (by omega : 0 < 10)]
    rfl
  · rename_i h
    have hself := trim_self n
    have htop : rd (limbs n) (((limbs n).length - 1 : Nat) : Int) ≠ 0 := by
      intro hz
      rcases List.eq_nil_or_concat (limbs n) with e | ⟨ys, z, e⟩
      · rw [e] at h; exact h rfl
      · rw [List.concat_eq_append] at e
        rw [e, rd_nat] at hz
        simp at hz
        rw [e, trimL_snoc, if_pos hz] at hself
        have := trimL_le ys
        rw [hself] at this
        simp at this
        omega
    have := (tkL_val (limbs_Limbs n) (by omega) htop ((limbs n).length - 1) (by omega)).2
    rw [show (limbs n).length - 1 + 1 = (limbs n).length by omega, show (limbs n).length - 1 - ((limbs n).length - 1) = 0 by omega, List.drop_zero, lval_limbs] at this
    exact this
theorem nDigits_le_of_lt : ∀ k u, u < 10 ^ (k + 1) → Lib.nDigits u ≤ k + 1 := by
  intro k
  induction k with
  | zero => intro u hu; rw [Lib.nDigits_small (by omega)]; omega
  | succ k ih =>
    intro u hu
    by_cases h1 : u < 10
    · rw [Lib.nDigits_small h1]; omega
    · rw [Lib.nDigits_big h1]
      have := ih (u / 10) (by rw [Nat.div_lt_iff_lt_mul (by omega)]; rw [Nat.pow_succ] at hu; exact hu)
      omega
theorem dec_len_iff (k u : Nat) : (Sp.decL u).length ≤ k + 1 ↔ u < 10 ^ (k + 1) := by
  rw [show Sp.decL u = Lib.decDigits u from rfl, Lib.decDigits_length]
  constructor
  · intro h
    exact Nat.lt_of_lt_of_le (Lib.lt_pow_nDigits u) (Nat.pow_le_pow_right (by omega) h)
  · exact nDigits_le_of_lt k u
theorem text_val (n : Nat) : textF (limbs n) = Sp.lim n := by
  unfold textF Sp.lim
  rw [text_limbs]
  by_cases h : n < 10 ^ 300
  · rw [if_pos ((dec_len_iff 299 n).2 h), if_pos h]; rfl
  · rw [if_neg (fun h2 => h ((dec_len_iff 299 n).1 h2)), if_neg h]; rfl
end Go.Proofs.YtmkanjcehhbmlaaGreatDoor.Pr
end
