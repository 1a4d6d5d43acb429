/- Trimming: what the printed natural.number.trim computes. Plain words: numbers in limbs of nine digits. No program in sight. What the printed natural.number.sub computes. -/
import Derived.Test.YtmkanjcehhbmlaaGreatDoorDGW
import Derived.Test.YtmkanjcehhbmlaaGreatDoorDGW2
import Derived.Test.YtmkanjcehhbmlaaGreatDoorDNum
import Derived.Test.YtmkanjcehhbmlaaGreatDoorDPrA4
import Derived.Test.YtmkanjcehhbmlaaGreatDoorDSpec
import Derived.Test.YtmkanjcehhbmlaaGreatDoorDWLast
set_option linter.all false
section
namespace Go.Proofs.YtmkanjcehhbmlaaGreatDoor.Pr
set_option linter.unusedSimpArgs false
set_option linter.unusedVariables false
open Go.RowKit Go.Proofs.YtmkanjcehhbmlaaGreatDoorW.PrintWords Go.Proofs.YtmkanjcehhbmlaaGreatDoorW.PrintLast Go.Proofs.YtmkanjcehhbmlaaGreatDoorW.PrintMore
def trimL (xs : List Int) : List Int := (xs.reverse.dropWhile (· == 0)).reverse
theorem trimL_nil : trimL [] = [] := rfl
theorem trimL_snoc (xs : List Int) (z : Int) : trimL (xs ++ [z]) = if z = 0 then trimL xs else xs ++ [z] := by
  unfold trimL
  rw [List.reverse_append, List.reverse_singleton, List.singleton_append, List.dropWhile_cons]
  by_cases h : z = 0
  · rw [if_pos h, if_pos (by simpa using h)]
  · rw [if_neg h, if_neg (by simpa using h)]
    simp
theorem trimL_le (xs : List Int) : (trimL xs).length ≤ xs.length := by
  unfold trimL
  have := (List.dropWhile_sublist (l := xs.reverse) (· == 0)).length_le
  simpa using this
theorem wrap64_sub1 (n : Nat) (h0 : 0 < n) (h : n < 4611686018427387904) : wrap64 ((n : Int) - 1) = ((n - 1 : Nat) : Int) := by
  unfold wrap64; omega
theorem trim_f : ∀ (k : Nat) (xs : List Int), xs.length < k → xs.length < 4611686018427387904 → natural_number_trim.f k xs = some (trimL xs) := by
  unfold natural_number_trim.f
  intro k
  induction k with
  | zero => intro xs h; omega
  | succ k ih =>
    intro xs h hM
    rw [natural_number_trim.l0]
    rcases List.eq_nil_or_concat xs with rfl | ⟨ys, z, rfl⟩
    · simp [trimL_nil]
    · rw [List.concat_eq_append] at h hM ⊢
      have hl : (ys ++ [z]).length = ys.length + 1 := by simp
      rw [wrap64_sub1 _ (by omega) hM, hl]
      rw [hl] at h hM
      rw [if_pos (by omega), if_pos (by omega), if_pos (by omega)]
      have hr : rd (ys ++ [z]) ((ys.length + 1 - 1 : Nat) : Int) = z := by unfold rd; simp
      rw [hr, trimL_snoc]
      split
      · rw [if_pos (by omega)]
        have : (ys ++ [z]).take (((ys.length + 1 - 1 : Nat) : Int)).toNat = ys := by simp
        rw [this]
        exact ih ys (by omega) (by omega)
      · rfl
end Go.Proofs.YtmkanjcehhbmlaaGreatDoor.Pr
end

section
namespace Go.Proofs.YtmkanjcehhbmlaaGreatDoor.Pr
set_option linter.unusedSimpArgs false
set_option linter.unusedVariables false
open Go.RowKit Go.Proofs.YtmkanjcehhbmlaaGreatDoorW.PrintWords Go.Proofs.YtmkanjcehhbmlaaGreatDoorW.PrintLast Go.Proofs.YtmkanjcehhbmlaaGreatDoorW.PrintMore
def lval : List Int → Int
  | [] => 0
  | x :: xs => x + (1000000000 : Int) * lval xs
/-- The limbs of a number. -/
def limbs (n : Nat) : List Int := if h : n = 0 then [] else ((n % 1000000000 : Nat) : Int) :: limbs (n / 1000000000)
termination_by n
decreasing_by omega
theorem Limbs.nil : Limbs [] := fun x h => by cases h
theorem Limbs.cons {x : Int} {xs : List Int} (h : Limbs (x :: xs)) : (0 ≤ x ∧ x < 1000000000) ∧ Limbs xs := ⟨h x (by simp), fun y hy => h y (by simp [hy])⟩
theorem Limbs.mk {x : Int} {xs : List Int} (h : 0 ≤ x ∧ x < 1000000000) (h2 : Limbs xs) : Limbs (x :: xs) := fun y hy => by
  rcases List.mem_cons.1 hy with rfl | hy
  · exact h
  · exact h2 y hy
theorem Limbs.append {xs ys : List Int} (h : Limbs xs) (h2 : Limbs ys) : Limbs (xs ++ ys) := fun y hy => (List.mem_append.1 hy).elim (h y) (h2 y)
theorem Limbs.set {xs : List Int} (h : Limbs xs) (i : Nat) {v : Int} (hv : 0 ≤ v ∧ v < 1000000000) : Limbs (xs.set i v) := fun y hy => by
  rcases List.mem_or_eq_of_mem_set hy with h' | rfl
  · exact h y h'
  · exact hv
theorem Limbs.take {xs : List Int} (h : Limbs xs) (i : Nat) : Limbs (xs.take i) := fun y hy => h y (List.mem_of_mem_take hy)
theorem Limbs.drop {xs : List Int} (h : Limbs xs) (i : Nat) : Limbs (xs.drop i) := fun y hy => h y (List.mem_of_mem_drop hy)
theorem Limbs.zeros (n : Nat) : Limbs (List.replicate n 0) := fun y hy => by rw [List.eq_of_mem_replicate hy]; omega
theorem lval_nonneg : ∀ {xs : List Int}, Limbs xs → 0 ≤ lval xs
  | [], _ => by simp [lval]
  | x :: xs, h => by have := lval_nonneg h.cons.2; have := h.cons.1; rw [lval]; omega
theorem lval_append : ∀ (xs ys : List Int), lval (xs ++ ys) = lval xs + (1000000000 : Int) ^ xs.length * lval ys
  | [], ys => by simp [lval]
  | x :: xs, ys => by
    rw [List.cons_append, lval, lval, lval_append xs ys, List.length_cons, Int.pow_succ]
    grind
theorem lval_snoc (xs : List Int) (z : Int) : lval (xs ++ [z]) = lval xs + (1000000000 : Int) ^ xs.length * z := by rw [lval_append]; simp [lval]
theorem lval_zeros : ∀ n, lval (List.replicate n 0) = 0
  | 0 => rfl
  | n + 1 => by rw [List.replicate_succ, lval, lval_zeros n]; rfl
theorem lval_lt : ∀ {xs : List Int}, Limbs xs → lval xs < (1000000000 : Int) ^ xs.length
  | [], _ => by simp [lval]
  | x :: xs, h => by
    have := lval_lt h.cons.2; have := h.cons.1
    rw [lval, List.length_cons, Int.pow_succ]
    omega
theorem limbs_zero : limbs 0 = [] := by rw [limbs, dif_pos rfl]
theorem limbs_pos {n : Nat} (h : n ≠ 0) : limbs n = ((n % 1000000000 : Nat) : Int) :: limbs (n / 1000000000) := by rw [limbs, dif_neg h]
theorem limbs_ok (n : Nat) : Limbs (limbs n) ∧ lval (limbs n) = n := by
  induction n using Nat.strongRecOn with
  | _ n ih =>
    by_cases h : n = 0
    · subst h; rw [limbs_zero]; exact ⟨Limbs.nil, rfl⟩
    · rw [limbs_pos h]
      have := ih (n / 1000000000) (by omega)
      refine ⟨Limbs.mk (by omega) this.1, ?_⟩
      rw [lval, this.2]
      omega
theorem limbs_Limbs (n : Nat) : Limbs (limbs n) := (limbs_ok n).1
theorem lval_limbs (n : Nat) : lval (limbs n) = n := (limbs_ok n).2
theorem limbs_snoc : ∀ {xs : List Int} {z : Int}, Limbs (xs ++ [z]) → z ≠ 0 → limbs (lval (xs ++ [z])).toNat = xs ++ [z]
  | [], z, h, hz => by
    have hb := h z (by simp)
    have e : lval ([] ++ [z]) = z := by simp [lval]
    rw [e, limbs_pos (by omega)]
    have e2 : z.toNat / 1000000000 = 0 := by omega
    have e3 : ((z.toNat % 1000000000 : Nat) : Int) = z := by omega
    rw [e2, limbs_zero, e3]
    rfl
  | x :: xs, z, h, hz => by
    have hc := Limbs.cons (x := x) (xs := xs ++ [z]) h
    have ih := limbs_snoc hc.2 hz
    have h0 := lval_nonneg hc.2
    have hne : (lval (xs ++ [z])).toNat ≠ 0 := by intro e; rw [e, limbs_zero] at ih; simp at ih
    rw [List.cons_append, lval]
    obtain ⟨L, hL⟩ : ∃ L, lval (xs ++ [z]) = L := ⟨_, rfl⟩
    rw [hL] at ih h0 hne ⊢
    rw [limbs_pos (by omega)]
    have e1 : ((((x + (1000000000 : Int) * L).toNat) % 1000000000 : Nat) : Int) = x := by omega
    have e2 : (x + (1000000000 : Int) * L).toNat / 1000000000 = L.toNat := by omega
    rw [e1, e2, ih]
/-- What is trimmed is the number's own limbs. -/
theorem trim_limbs (xs : List Int) (h : Limbs xs) : trimL xs = limbs (lval xs).toNat := by
  rw [← List.reverse_reverse xs] at h ⊢
  generalize xs.reverse = q at h ⊢
  induction q with
  | nil => rw [List.reverse_nil]; show [] = limbs 0; rw [limbs_zero]
  | cons z q ih =>
    rw [List.reverse_cons] at h ⊢
    rw [trimL_snoc]
    split
    · rename_i hz; subst hz
      rw [ih (fun y hy => h y (by simp at hy ⊢; exact .inl hy)), lval_snoc]
      simp
    · rename_i hz
      exact (limbs_snoc h hz).symm
theorem trim_of {xs : List Int} (h : Limbs xs) {n : Nat} (hv : lval xs = n) : trimL xs = limbs n := by rw [trim_limbs xs h, hv]; rfl
theorem trim_self (n : Nat) : trimL (limbs n) = limbs n := trim_of (limbs_Limbs n) (lval_limbs n)
theorem limbs_len (n : Nat) : (n : Int) < (1000000000 : Int) ^ (limbs n).length := by have := lval_lt (limbs_Limbs n); rwa [lval_limbs] at this
theorem limbs_len_le : ∀ (k n : Nat), n < 1000000000 ^ k → (limbs n).length ≤ k
  | 0, n, h => by have : n = 0 := by simpa using h
                  subst this; rw [limbs_zero]; simp
  | k + 1, n, h => by
    by_cases h0 : n = 0
    · subst h0; rw [limbs_zero]; simp
    · rw [limbs_pos h0, List.length_cons]
      have := limbs_len_le k (n / 1000000000) (by rw [Nat.div_lt_iff_lt_mul (by omega)]; rwa [Nat.pow_succ] at h)
      omega
theorem limbs_nil_iff (n : Nat) : (limbs n).length = 0 ↔ n = 0 := by
  constructor
  · intro h
    have := List.eq_nil_of_length_eq_zero h
    have h2 := lval_limbs n
    rw [this] at h2
    simp [lval] at h2
    omega
  · rintro rfl; rw [limbs_zero]; rfl
theorem rd_nat (xs : List Int) (i : Nat) : rd xs (i : Nat) = xs.getD i 0 := by unfold rd; rfl
theorem lval_take_succ (xs : List Int) (i : Nat) : lval (xs.take (i + 1)) = lval (xs.take i) + (1000000000 : Int) ^ i * rd xs (i : Nat) := by
  rw [rd_nat]
  rcases Nat.lt_or_ge i xs.length with h | h
  · rw [List.take_succ_eq_append_getElem h, lval_snoc, List.length_take, Nat.min_eq_left (by omega)]
    rw [List.getD_eq_getElem?_getD, List.getElem?_eq_getElem h]; rfl
  · rw [List.take_of_length_le (by omega), List.take_of_length_le h, List.getD_eq_getElem?_getD, List.getElem?_eq_none h]
    simp
theorem lval_set : ∀ (xs : List Int) (i : Nat) (v : Int), i < xs.length → lval (xs.set i v) + (1000000000 : Int) ^ i * rd xs (i : Nat) = lval xs + (1000000000 : Int) ^ i * v
  | [], i, v, h => by simp at h
  | x :: xs, 0, v, h => by simp [lval, rd]; omega
  | x :: xs, i + 1, v, h => by
    have ih := lval_set xs i v (by simpa using h)
    rw [rd_nat] at ih ⊢
    rw [List.set_cons_succ, lval, lval, Int.pow_succ, List.getD_cons_succ]
    grind
theorem rd_set (xs : List Int) (i j : Nat) (v : Int) : rd (xs.set i v) (j : Nat) = if i = j ∧ j < xs.length then v else rd xs (j : Nat) := by
  rw [rd_nat, rd_nat, List.getD_eq_getElem?_getD, List.getD_eq_getElem?_getD, List.getElem?_set]
  by_cases hij : i = j
  · subst hij
    by_cases hl : i < xs.length
    · simp [hl]
    · simp [hl]
  · simp [hij]
theorem rd_zeros (n j : Nat) : rd (List.replicate n 0) (j : Nat) = 0 := by
  rw [rd_nat, List.getD_eq_getElem?_getD, List.getElem?_replicate]
  split <;> rfl
end Go.Proofs.YtmkanjcehhbmlaaGreatDoor.Pr
end

section
namespace Go.Proofs.YtmkanjcehhbmlaaGreatDoor.Pr
set_option linter.unusedSimpArgs false
set_option linter.unusedVariables false
open Go.RowKit Go.Proofs.YtmkanjcehhbmlaaGreatDoorW.PrintWords Go.Proofs.YtmkanjcehhbmlaaGreatDoorW.PrintLast Go.Proofs.YtmkanjcehhbmlaaGreatDoorW.PrintMore
theorem u64_in {x : Int} (h0 : 0 ≤ x) (h1 : x < 18446744073709551616) : IntKind.u64.wrap x = x := by rw [IntKind.wrap_u64]; omega
theorem w64_in {x : Int} (h0 : 0 ≤ x) (h1 : x < 9223372036854775808) : wrap64 x = x := by unfold wrap64; omega
theorem rd_above {xs : List Int} {i : Nat} (h : xs.length ≤ i) : rd xs (i : Nat) = 0 := by rw [rd_nat, List.getD_eq_getElem?_getD, List.getElem?_eq_none h]; rfl
/-- One round's bookkeeping: v is written at place i, of which was 0. -/
theorem sub_round {xs ys out : List Int} {n i : Nat} {bo bo' v : Int} (hin : i < n) (hol : out.length = n) (hz : ∀ j, i ≤ j → rd out (j : Nat) = 0)
    (hv : lval out + lval (ys.take i) = lval (xs.take i) + (1000000000 : Int) ^ i * bo) (he : v + rd ys (i : Nat) + bo = rd xs (i : Nat) + 1000000000 * bo') :
    lval (out.set i v) + lval (ys.take (i + 1)) = lval (xs.take (i + 1)) + (1000000000 : Int) ^ (i + 1) * bo' := by
  have hio : i < out.length := by rw [hol]; exact hin
  have h1 := lval_set out i v hio
  rw [hz i (Nat.le_refl _)] at h1
  rw [lval_take_succ, lval_take_succ, Int.pow_succ]
  have h2 : v = rd xs (i : Nat) + 1000000000 * bo' - rd ys (i : Nat) - bo := by clear hv h1; omega
  subst h2
  grind
theorem sub_l0 {xs ys : List Int} {n : Nat} (hx : Limbs xs) (hy : Limbs ys) (hn : xs.length = n) (hr : n ≤ 100000) : ∀ (d i : Nat) (out : List Int) (bo : Int) (k : Nat), i + d = n → out.length = n → Limbs out → (∀ j, i ≤ j → rd out (j : Nat) = 0) → (bo = 0 ∨ bo = 1) →
    lval out + lval (ys.take i) = lval (xs.take i) + (1000000000 : Int) ^ i * bo → d + n + 2 ≤ k →
    ∃ out' bo', Limbs out' ∧ out'.length = n ∧ (bo' = 0 ∨ bo' = 1) ∧ lval out' + lval (ys.take n) = lval (xs.take n) + (1000000000 : Int) ^ n * bo' ∧ natural_number_sub.l0 k ys out bo xs n i = some (trimL out') := by
  intro d
  induction d with
  | zero =>
    intro i out bo k hid hol hL hz hb hv hk
    obtain ⟨k, rfl⟩ : ∃ k', k = k' + 1 := ⟨k - 1, by omega⟩
    obtain rfl : i = n := by omega
    refine ⟨out, bo, hL, hol, hb, hv, ?_⟩
    rw [natural_number_sub.l0, if_neg (by omega), trim_f k out (by omega) (by omega)]
    rfl
  | succ d ih =>
    intro i out bo k hid hol hL hz hb hv hk
    obtain ⟨k, rfl⟩ : ∃ k', k = k' + 1 := ⟨k - 1, by omega⟩
    have HV := Lib.hid hv
    clear hv
    have hx0 := hx.rd (i : Nat)
    have hy0 := hy.rd (i : Nat)
    have hb0 : 0 ≤ bo ∧ bo ≤ 1 := by omega
    have hi1 : wrap64 ((i : Int) + 1) = ((i + 1 : Nat) : Int) := by rw [w64_in (by omega) (by omega)]; rfl
    have c1 : (i : Int) < (n : Int) := by omega
    have c2 : (0 : Int) ≤ (i : Int) := by omega
    have c3 : (i : Int) < (xs.length : Int) := by omega
    rw [natural_number_sub.l0, if_pos c1, if_pos c2, if_pos c3]
    have nxt : ∀ v bo', 0 ≤ v ∧ v < 1000000000 → (bo' = 0 ∨ bo' = 1) → v + rd ys (i : Nat) + bo = rd xs (i : Nat) + 1000000000 * bo' →
        ∃ out' bo2, Limbs out' ∧ out'.length = n ∧ (bo2 = 0 ∨ bo2 = 1) ∧ lval out' + lval (ys.take n) = lval (xs.take n) + (1000000000 : Int) ^ n * bo2 ∧ natural_number_sub.l0 k ys (out.set i v) bo' xs n (i + 1 : Nat) = some (trimL out') := by
      intro v bo' hv0 hb' he
      exact ih (i + 1) (out.set i v) bo' k (by omega) (by simpa using hol) (hL.set i hv0) (fun j hj => by rw [rd_set, if_neg (by omega)]; exact hz j (by omega)) hb' (sub_round (by omega) hol hz HV.out he) (by omega)
    have c4 : (i : Int) < (out.length : Int) := by omega
    rw [Int.toNat_natCast, hi1]
    by_cases hyl : (i : Int) < ys.length
    · rw [if_pos hyl, u64_in (x := bo + rd ys (i : Nat)) (by omega) (by omega)]
      split
      · rw [u64_in (x := rd xs (i : Nat) + 1000000000) (by omega) (by omega), u64_in (by omega) (by omega)]
        exact nxt _ 1 (by omega) (.inr rfl) (by omega)
      · rw [u64_in (by omega) (by omega)]
        exact nxt _ 0 (by omega) (.inl rfl) (by omega)
    · have hy1 : rd ys (i : Nat) = 0 := rd_above (by omega)
      rw [if_neg hyl]
      split
      · rw [u64_in (x := rd xs (i : Nat) + 1000000000) (by omega) (by omega), u64_in (by omega) (by omega)]
        exact nxt _ 1 (by omega) (.inr rfl) (by omega)
      · rw [u64_in (by omega) (by omega)]
        exact nxt _ 0 (by omega) (.inl rfl) (by omega)
theorem limbs_len_mono {a b : Nat} (h : b ≤ a) : (limbs b).length ≤ (limbs a).length := by
  refine limbs_len_le _ _ ?_
  have := limbs_len a
  have h2 : ((1000000000 ^ (limbs a).length : Nat) : Int) = (1000000000 : Int) ^ (limbs a).length := by simp
  rw [← h2] at this
  omega
/-- sub: the difference. -/
theorem sub_f (a b k : Nat) (hab : b ≤ a) (hr : (limbs a).length ≤ 100000) (hk : 2 * (limbs a).length + 2 ≤ k) : natural_number_sub.f k (limbs a) (limbs b) = some (limbs (a - b)) := by
  unfold natural_number_sub.f
  rw [if_pos (by omega), if_pos (by omega)]
  have hl := limbs_len_mono hab
  obtain ⟨out, bo, hL, hol, hb, hv, he⟩ := sub_l0 (limbs_Limbs a) (limbs_Limbs b) rfl hr (limbs a).length 0 (List.replicate (limbs a).length 0) 0 k (by omega) (by simp) (Limbs.zeros _) (fun j _ => rd_zeros _ _) (.inl rfl) (by simp [lval_zeros]) (by omega)
  have e1 : (((limbs a).length : Int)).toNat = (limbs a).length := by simp
  rw [e1]
  refine he.trans ?_
  rw [List.take_of_length_le hl, List.take_of_length_le (Nat.le_refl _), lval_limbs, lval_limbs] at hv
  have h1 := lval_lt hL
  rw [hol] at h1
  have h0 := lval_nonneg hL
  obtain ⟨P, hP⟩ : ∃ P, (1000000000 : Int) ^ (limbs a).length = P := ⟨_, rfl⟩
  rw [hP] at h1 hv
  clear hP he
  have hb0 : bo = 0 := by
    rcases hb with hb | hb
    · exact hb
    · subst hb; omega
  subst hb0
  rw [trim_of hL (n := a - b) (by omega)]
end Go.Proofs.YtmkanjcehhbmlaaGreatDoor.Pr
end
