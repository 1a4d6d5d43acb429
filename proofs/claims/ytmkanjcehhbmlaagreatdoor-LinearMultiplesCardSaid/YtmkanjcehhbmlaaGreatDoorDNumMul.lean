/- What the printed natural.number.mul computes. -/
import Derived.Test.YtmkanjcehhbmlaaGreatDoorDGN2
import Derived.Test.YtmkanjcehhbmlaaGreatDoorDGW
import Derived.Test.YtmkanjcehhbmlaaGreatDoorDGW2
import Derived.Test.YtmkanjcehhbmlaaGreatDoorDNum
import Derived.Test.YtmkanjcehhbmlaaGreatDoorDPrA4
import Derived.Test.YtmkanjcehhbmlaaGreatDoorDPrA5
import Derived.Test.YtmkanjcehhbmlaaGreatDoorDSpec
import Derived.Test.YtmkanjcehhbmlaaGreatDoorDWLast
set_option linter.all false
section
namespace Go.Proofs.YtmkanjcehhbmlaaGreatDoor.Pr
set_option linter.unusedSimpArgs false
set_option linter.unusedVariables false
open Go.RowKit Go.Proofs.YtmkanjcehhbmlaaGreatDoorW.PrintWords Go.Proofs.YtmkanjcehhbmlaaGreatDoorW.PrintLast Go.Proofs.YtmkanjcehhbmlaaGreatDoorW.PrintMore
theorem mul_round {ys out : List Int} {i j : Nat} {a b c o v c' E R : Int} (hp : i + j < out.length) (ho : rd out ((i + j : Nat) : Int) = o) (hb : rd ys (j : Nat) = b) (hx : v + 1000000000 * c' = o + a * b + c)
    (h : E + (1000000000 : Int) ^ i * a * lval (ys.take (j + 1)) = lval (out.set (i + j) v) + (1000000000 : Int) ^ (i + (j + 1)) * c' + R) :
    E + (1000000000 : Int) ^ i * a * lval (ys.take j) = lval out + (1000000000 : Int) ^ (i + j) * c + R := by
  have h1 := lval_set out (i + j) v hp
  rw [ho] at h1
  rw [lval_take_succ, hb] at h
  rw [← Nat.add_assoc, Int.pow_succ, Int.pow_add] at h
  rw [Int.pow_add] at h1 ⊢
  generalize (1000000000 : Int) ^ i = P at *
  generalize (1000000000 : Int) ^ j = Q at *
  have h2 : v = o + a * b + c - 1000000000 * c' := by omega
  subst h2
  grind
theorem mul_fits {a b c o : Int} (ha : 0 ≤ a ∧ a < 1000000000) (hb : 0 ≤ b ∧ b < 1000000000) (hc : 0 ≤ c ∧ c < 1000000000) (ho : 0 ≤ o ∧ o < 1000000000) : 0 ≤ a * b ∧ a * b ≤ 999999998000000001 := by
  refine ⟨Int.mul_nonneg ha.1 hb.1, ?_⟩
  have h1 : a * b ≤ 999999999 * b := Int.mul_le_mul_of_nonneg_right (by omega) hb.1
  omega
theorem mul_l1 {xs ys : List Int} {n m i : Nat} {a : Int} (hy : Limbs ys) (hm : ys.length = m) (hi : i < n) (hr : n ≤ 100000) (hr2 : m ≤ 100000) (ha : 0 ≤ a ∧ a < 1000000000) : ∀ (d j : Nat) (out : List Int) (c : Int) (k : Nat), j + d = m → out.length = n + m → Limbs out → 0 ≤ c ∧ c < 1000000000 →
    ∃ out' c', Limbs out' ∧ out'.length = n + m ∧ (0 ≤ c' ∧ c' < 1000000000) ∧ (∀ t : Nat, i + m ≤ t → rd out' (t : Nat) = rd out (t : Nat)) ∧
      lval out' + (1000000000 : Int) ^ (i + m) * c' + (1000000000 : Int) ^ i * a * lval (ys.take j) = lval out + (1000000000 : Int) ^ (i + j) * c + (1000000000 : Int) ^ i * a * lval (ys.take m) ∧
      natural_number_mul.l1 (k + d + 1) ys out i a c xs n i ys m j = natural_number_mul.l0 k ys (out'.set (i + m) c') xs n (i + 1 : Nat) := by
  intro d
  induction d with
  | zero =>
    intro j out c k hjd hol hL hc
    obtain rfl : j = m := by omega
    refine ⟨out, c, hL, hol, hc, fun _ _ => rfl, by rfl, ?_⟩
    have w1 : wrap64 ((i : Int) + (ys.length : Int)) = ((i + j : Nat) : Int) := by rw [w64_in (by omega) (by omega)]; omega
    have w2 : wrap64 ((i : Int) + 1) = ((i + 1 : Nat) : Int) := by rw [w64_in (by omega) (by omega)]; rfl
    have c1 : ¬ (j : Int) < (j : Int) := by omega
    have c2 : (0 : Int) ≤ ((i + j : Nat) : Int) := Int.natCast_nonneg _
    have c3 : ((i + j : Nat) : Int) < (out.length : Int) := by omega
    rw [natural_number_mul.l1, if_neg c1, w1, w2, if_pos c2, if_pos c3, Int.toNat_natCast]
  | succ d ih =>
    intro j out c k hjd hol hL hc
    obtain ⟨o, ho⟩ : ∃ o, rd out ((i + j : Nat) : Int) = o := ⟨_, rfl⟩
    obtain ⟨b, hb⟩ : ∃ b, rd ys (j : Nat) = b := ⟨_, rfl⟩
    have hob : 0 ≤ o ∧ o < 1000000000 := by rw [← ho]; exact hL.rd _
    have hbb : 0 ≤ b ∧ b < 1000000000 := by rw [← hb]; exact hy.rd _
    have hab := mul_fits ha hbb hc hob
    have c1 : (j : Int) < (m : Int) := by omega
    have c2 : (0 : Int) ≤ (j : Int) := Int.natCast_nonneg _
    have c3 : (j : Int) < (ys.length : Int) := by omega
    have c4 : (0 : Int) ≤ ((i + j : Nat) : Int) := Int.natCast_nonneg _
    have c5 : ((i + j : Nat) : Int) < (out.length : Int) := by omega
    obtain ⟨x, hx⟩ : ∃ x, o + a * b + c = x := ⟨_, rfl⟩
    have hx0 : 0 ≤ x ∧ x < 1000000000000000000 := by omega
    have W1 := Lib.hid (show wrap64 ((i : Int) + (j : Int)) = ((i + j : Nat) : Int) by rw [w64_in (by omega) (by omega)]; omega)
    have W2 := Lib.hid (show wrap64 ((j : Int) + 1) = ((j + 1 : Nat) : Int) by rw [w64_in (by omega) (by omega)]; rfl)
    have U1 := Lib.hid (show IntKind.u64.wrap (a * b) = a * b from u64_in (by omega) (by omega))
    have U2 := Lib.hid (show IntKind.u64.wrap (o + a * b) = o + a * b from u64_in (by omega) (by omega))
    have U3 := Lib.hid (show IntKind.u64.wrap (o + a * b + c) = x by rw [hx]; exact u64_in (by omega) (by omega))
    have U4 := Lib.hid (show Int.tmod x 1000000000 = x % 1000000000 from Int.tmod_eq_emod_of_nonneg (by omega))
    have U5 := Lib.hid (show Int.tdiv x 1000000000 = x / 1000000000 from Int.tdiv_eq_ediv_of_nonneg (by omega))
    have U6 := Lib.hid (show IntKind.u64.wrap (x / 1000000000) = x / 1000000000 from u64_in (by omega) (by omega))
    obtain ⟨out', c', h1, h2, h3, h4, h5, h6⟩ := ih (j + 1) (out.set (i + j) (x % 1000000000)) (x / 1000000000) k (by omega) (by simpa using hol) (hL.set _ (by omega)) (by omega)
    have H5 := Lib.hid h5
    clear h5
    refine ⟨out', c', h1, h2, h3, fun t ht => by rw [h4 t ht, rd_set, if_neg (by omega)], ?_, ?_⟩
    · exact mul_round (by omega) ho hb (by rw [hx]; omega) H5.out
    · rw [show k + (d + 1) + 1 = (k + d + 1) + 1 by omega, natural_number_mul.l1, if_pos c1, if_pos c2, if_pos c3, W1.out, W2.out, if_pos c4, if_pos c5, ho, hb, U1.out, U2.out, U3.out, U4.out, U5.out, U6.out, Int.toNat_natCast]
      exact h6
theorem mul_outer {xs ys out out' : List Int} {i m : Nat} {a c' : Int} (hx : rd xs (i : Nat) = a) (hm : ys.length = m) (hz : rd out' ((i + m : Nat) : Int) = 0) (hp : i + m < out'.length) (hv : lval out = lval (xs.take i) * lval ys)
    (h : lval out' + (1000000000 : Int) ^ (i + m) * c' + (1000000000 : Int) ^ i * a * lval (ys.take 0) = lval out + (1000000000 : Int) ^ (i + 0) * 0 + (1000000000 : Int) ^ i * a * lval (ys.take m)) :
    lval (out'.set (i + m) c') = lval (xs.take (i + 1)) * lval ys := by
  have h1 := lval_set out' (i + m) c' hp
  rw [hz] at h1
  rw [lval_take_succ, hx]
  rw [List.take_of_length_le (by omega : ys.length ≤ m), List.take_zero] at h
  have h0 : lval ([] : List Int) = 0 := rfl
  rw [h0] at h
  generalize (1000000000 : Int) ^ i = P at *
  generalize (1000000000 : Int) ^ (i + m) = Q at *
  grind
theorem mul_l0 {xs ys : List Int} {n m : Nat} (hx : Limbs xs) (hy : Limbs ys) (hn : xs.length = n) (hm : ys.length = m) (hr : n ≤ 100000) (hr2 : m ≤ 100000) : ∀ (d i : Nat) (out : List Int) (k : Nat), i + d = n → out.length = n + m → Limbs out → (∀ t : Nat, i + m ≤ t → rd out (t : Nat) = 0) →
    lval out = lval (xs.take i) * lval ys → d * (m + 2) + (n + m) + 2 ≤ k → natural_number_mul.l0 k ys out xs n i = some (limbs (lval xs * lval ys).toNat) := by
  intro d
  induction d with
  | zero =>
    intro i out k hid hol hL hz hv hk
    obtain ⟨k, rfl⟩ : ∃ k', k = k' + 1 := ⟨k - 1, by omega⟩
    obtain rfl : i = n := by omega
    have c1 : ¬ (i : Int) < (i : Int) := by omega
    rw [natural_number_mul.l0, if_neg c1, trim_f k out (by omega) (by omega), trim_limbs out hL, hv, List.take_of_length_le (by omega)]
    rfl
  | succ d ih =>
    intro i out k hid hol hL hz hv hk
    have hk2 : (d + 1) * (m + 2) = d * (m + 2) + (m + 2) := Nat.succ_mul _ _
    obtain ⟨k', rfl⟩ : ∃ k', k = (k' + m + 1) + 1 := ⟨k - m - 2, by omega⟩
    have HV := Lib.hid hv
    clear hv
    have c1 : (i : Int) < (n : Int) := by omega
    have c2 : (0 : Int) ≤ (i : Int) := Int.natCast_nonneg _
    have c3 : (i : Int) < (xs.length : Int) := by omega
    obtain ⟨a, ha⟩ : ∃ a, rd xs (i : Nat) = a := ⟨_, rfl⟩
    have haB : 0 ≤ a ∧ a < 1000000000 := by rw [← ha]; exact hx.rd _
    obtain ⟨out', c', h1, h2, h3, h4, h5, h6⟩ := mul_l1 (xs := xs) (i := i) hy hm (by omega : i < n) hr hr2 haB m 0 out 0 k' (by omega) hol hL (by omega)
    have H5 := Lib.hid h5
    clear h5
    rw [natural_number_mul.l0, if_pos c1, if_pos c2, if_pos c3, ha, hm]
    refine h6.trans ?_
    have hz2 : rd out' ((i + m : Nat) : Int) = 0 := by rw [h4 _ (Nat.le_refl _)]; exact hz _ (Nat.le_refl _)
    have hp : i + m < out'.length := by omega
    exact ih (i + 1) (out'.set (i + m) c') k' (by omega) (by simpa using h2) (h1.set _ h3) (fun t ht => by rw [rd_set, if_neg (by omega), h4 t (by omega)]; exact hz t (by omega)) (mul_outer ha hm hz2 hp HV.out H5.out) (by omega)
theorem mul_fx (xs ys : List Int) (k : Nat) (hx : Limbs xs) (hy : Limbs ys) (hr : xs.length ≤ 100000) (hr2 : ys.length ≤ 100000) (hk : xs.length * (ys.length + 2) + (xs.length + ys.length) + 2 ≤ k) :
    natural_number_mul.f k xs ys = some (limbs (lval xs * lval ys).toNat) := by
  unfold natural_number_mul.f
  have w1 : wrap64 ((xs.length : Int) + (ys.length : Int)) = ((xs.length + ys.length : Nat) : Int) := by rw [w64_in (by omega) (by omega)]; omega
  rw [w1, if_pos (by omega), if_pos (by omega), Int.toNat_natCast]
  exact mul_l0 hx hy rfl rfl hr hr2 xs.length 0 _ k (by omega) (by simp) (Limbs.zeros _) (fun j _ => rd_zeros _ _) (by simp [lval_zeros, lval]) hk
/-- mul: the product. -/
theorem mul_f (a b k : Nat) (hr : (limbs a).length ≤ 100000) (hr2 : (limbs b).length ≤ 100000) (hk : (limbs a).length * ((limbs b).length + 2) + ((limbs a).length + (limbs b).length) + 2 ≤ k) :
    natural_number_mul.f k (limbs a) (limbs b) = some (limbs (a * b)) := by
  rw [mul_fx _ _ k (limbs_Limbs a) (limbs_Limbs b) hr hr2 hk, lval_limbs, lval_limbs]
  rfl
end Go.Proofs.YtmkanjcehhbmlaaGreatDoor.Pr
end
