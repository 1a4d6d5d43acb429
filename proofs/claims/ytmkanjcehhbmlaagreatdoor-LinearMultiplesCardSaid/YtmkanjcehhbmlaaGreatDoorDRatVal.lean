/- What Valid, lowest and the operations compute, as rational numbers. -/
import Derived.Test.YtmkanjcehhbmlaaGreatDoorDBuild
import Derived.Test.YtmkanjcehhbmlaaGreatDoorDFmt
import Derived.Test.YtmkanjcehhbmlaaGreatDoorDGN
import Derived.Test.YtmkanjcehhbmlaaGreatDoorDGN2
import Derived.Test.YtmkanjcehhbmlaaGreatDoorDGN3
import Derived.Test.YtmkanjcehhbmlaaGreatDoorDGW
import Derived.Test.YtmkanjcehhbmlaaGreatDoorDGW2
import Derived.Test.YtmkanjcehhbmlaaGreatDoorDNatApply
import Derived.Test.YtmkanjcehhbmlaaGreatDoorDNatS
import Derived.Test.YtmkanjcehhbmlaaGreatDoorDNum
import Derived.Test.YtmkanjcehhbmlaaGreatDoorDNumAdd
import Derived.Test.YtmkanjcehhbmlaaGreatDoorDNumCmp
import Derived.Test.YtmkanjcehhbmlaaGreatDoorDNumDiv
import Derived.Test.YtmkanjcehhbmlaaGreatDoorDNumIs
import Derived.Test.YtmkanjcehhbmlaaGreatDoorDNumMul
import Derived.Test.YtmkanjcehhbmlaaGreatDoorDNumOps
import Derived.Test.YtmkanjcehhbmlaaGreatDoorDNumParse
import Derived.Test.YtmkanjcehhbmlaaGreatDoorDNumText
import Derived.Test.YtmkanjcehhbmlaaGreatDoorDNumVal
import Derived.Test.YtmkanjcehhbmlaaGreatDoorDPrA1
import Derived.Test.YtmkanjcehhbmlaaGreatDoorDPrA11
import Derived.Test.YtmkanjcehhbmlaaGreatDoorDPrA4
import Derived.Test.YtmkanjcehhbmlaaGreatDoorDPrA5
import Derived.Test.YtmkanjcehhbmlaaGreatDoorDPrB1
import Derived.Test.YtmkanjcehhbmlaaGreatDoorDPrB2
import Derived.Test.YtmkanjcehhbmlaaGreatDoorDRatProd
import Derived.Test.YtmkanjcehhbmlaaGreatDoorDShelf
import Derived.Test.YtmkanjcehhbmlaaGreatDoorDSpec
import Derived.Test.YtmkanjcehhbmlaaGreatDoorDTab
import Derived.Test.YtmkanjcehhbmlaaGreatDoorDWLast
set_option linter.all false
section
namespace Go.Proofs.YtmkanjcehhbmlaaGreatDoor.Pr
set_option linter.unusedSimpArgs false
set_option linter.unusedVariables false
set_option exponentiation.threshold 400
open Go.RowKit Go.Shelf Go.Proofs.YtmkanjcehhbmlaaGreatDoorW.PrintWords Go.Proofs.YtmkanjcehhbmlaaGreatDoorW.PrintLast Go.Proofs.YtmkanjcehhbmlaaGreatDoorW.PrintMore
theorem dig_of {u : Nat} (h : u < 10) : Sp.isDig (UInt8.ofNat (48 + u)) = true ∧ (UInt8.ofNat (48 + u)).toNat - 48 = u := by
  have e : (UInt8.ofNat (48 + u)).toNat = 48 + u := by simp; omega
  unfold Sp.isDig
  rw [e]
  simp
  omega
theorem nvalL_dec (n : Nat) : Sp.nvalL (Sp.decL n) = n := by
  induction n using Nat.strongRecOn with
  | _ n ih =>
    by_cases h : n < 10
    · rw [dec_small h]
      show 10 * 0 + _ = n
      rw [(dig_of h).2]; omega
    · rw [dec_big h, nvalL_append, ih (n / 10) (by omega)]
      show n / 10 * 10 ^ 1 + (10 * 0 + _) = n
      rw [(dig_of (by omega)).2]; omega
theorem dec_digs (n : Nat) : ∀ c ∈ Sp.decL n, Sp.isDig c = true := by
  induction n using Nat.strongRecOn with
  | _ n ih =>
    by_cases h : n < 10
    · rw [dec_small h]
      intro c hc
      rw [List.mem_singleton.1 hc]
      exact (dig_of h).1
    · rw [dec_big h]
      intro c hc
      rcases List.mem_append.1 hc with hc | hc
      · exact ih (n / 10) (by omega) c hc
      · rw [List.mem_singleton.1 hc]
        exact (dig_of (by omega)).1
theorem dec_head (n : Nat) (h : 0 < n) : (Sp.decL n).headD 0 ≠ 48 := by
  induction n using Nat.strongRecOn with
  | _ n ih =>
    by_cases h1 : n < 10
    · rw [dec_small h1]
      show UInt8.ofNat (48 + n) ≠ 48
      intro e
      have := congrArg UInt8.toNat e
      have e2 : (UInt8.ofNat (48 + n)).toNat = 48 + n := by simp; omega
      rw [e2] at this
      have : 48 + n = 48 := this
      omega
    · rw [dec_big h1]
      have := ih (n / 10) (by omega) (by omega)
      cases hd : Sp.decL (n / 10) with
      | nil => have := dec_pos (n / 10); rw [hd] at this; simp at this
      | cons c r => rw [hd] at this; exact this
theorem dec_of (l : List UInt8) (hd : ∀ c ∈ l, Sp.isDig c = true) (h0 : l ≠ []) (hh : l.length = 1 ∨ l.headD 0 ≠ 48) : Sp.decL (Sp.nvalL l) = l := by
  rw [← List.reverse_reverse l] at hd h0 hh ⊢
  generalize l.reverse = q at hd h0 hh ⊢
  induction q with
  | nil => exact absurd rfl h0
  | cons c q ih =>
    rw [List.reverse_cons] at hd h0 hh ⊢
    have hc := hd c (by simp)
    have hc' := hc
    unfold Sp.isDig at hc'
    simp only [Bool.and_eq_true, decide_eq_true_eq] at hc'
    have hcc : UInt8.ofNat (48 + (c.toNat - 48)) = c := by
      rw [show 48 + (c.toNat - 48) = c.toNat by omega]
      exact UInt8.ofNat_toNat
    rw [nvalL_append]
    have e1 : Sp.nvalL [c] = c.toNat - 48 := by show 10 * 0 + _ = _; omega
    rw [e1]
    by_cases hq : q = []
    · subst hq
      show Sp.decL (0 * 10 ^ 1 + _) = [c]
      rw [Nat.zero_mul, Nat.zero_add, dec_small (by omega), hcc]
    · have hq' : q.reverse ≠ [] := by simpa using hq
      have hh' : q.reverse.headD 0 ≠ 48 := by
        rcases hh with hh | hh
        · exfalso; apply hq'; apply List.eq_nil_of_length_eq_zero; simp at hh; simpa using hh
        · cases hr : q.reverse with
          | nil => exact absurd hr hq'
          | cons x y => rw [hr] at hh; exact hh
      have ih2 := ih (fun x hx => hd x (by simp at hx ⊢; exact .inl hx)) hq' (.inr hh')
      have hpos : 0 < Sp.nvalL q.reverse := by
        rcases Nat.eq_zero_or_pos (Sp.nvalL q.reverse) with h | h
        · exfalso
          rw [h, dec_small (by omega)] at ih2
          rw [← ih2] at hh'
          exact hh' rfl
        · exact h
      have e2 : ([c] : List UInt8).length = 1 := rfl
      rw [e2, dec_big (by omega), show (Sp.nvalL q.reverse * 10 ^ 1 + (c.toNat - 48)) / 10 = Sp.nvalL q.reverse by omega, show (Sp.nvalL q.reverse * 10 ^ 1 + (c.toNat - 48)) % 10 = c.toNat - 48 by omega, ih2, hcc]
theorem nval_dec (n : Nat) : Sp.nval (Sp.dec n) = n := nvalL_dec n
theorem isNat_dec {n : Nat} (h : n < 10 ^ 300) : Sp.isNat (Sp.dec n) = true := by
  show Sp.isNatL (Sp.decL n) = true
  unfold Sp.isNatL
  have h1 : (Sp.decL n).isEmpty = false := by
    rw [List.isEmpty_eq_false_iff]
    intro e
    have := dec_pos n
    rw [e] at this
    simp at this
  have h2 : (Sp.decL n).length ≤ 300 := (dec_len_iff 299 n).2 h
  have h3 : (Sp.decL n).all Sp.isDig = true := List.all_eq_true.2 (dec_digs n)
  have h4 : (decide ((Sp.decL n).length = 1) || (Sp.decL n).headD 0 != 48) = true := by
    rw [Bool.or_eq_true, decide_eq_true_eq, bne_iff_ne]
    rcases Nat.eq_zero_or_pos n with h | h
    · subst h; exact .inl (by rw [dec_small (by omega)]; rfl)
    · exact .inr (dec_head n h)
  rw [h1, decide_eq_true h2, h3, h4]
  rfl
theorem dec_nval {s : ByteArray} (h : Sp.isNat s = true) : Sp.dec (Sp.nval s) = s := by
  obtain ⟨h1, h2, h3⟩ := isNat_digs h
  have h4 : s.data.toList ≠ [] := by
    intro e
    have : s.data.toList.length = s.size := rfl
    rw [e] at this
    simp at this
    omega
  unfold Sp.isNat Sp.isNatL at h
  simp only [Bool.and_eq_true, Bool.or_eq_true, decide_eq_true_eq, bne_iff_ne] at h
  have := dec_of s.data.toList h1 h4 h.2
  unfold Sp.dec
  show ByteArray.mk (Sp.decL (Sp.nvalL s.data.toList)).toArray = s
  rw [this]
theorem dec_toList (n : Nat) : (Sp.dec n).toList = Sp.decL n := by rw [Lib.toList_data]; rfl
theorem dec_inj {m n : Nat} (h : Sp.decL m = Sp.decL n) : m = n := by rw [← nvalL_dec m, h, nvalL_dec]
theorem dec48 (n : Nat) : (Sp.dec n).toList = [48] ↔ n = 0 := by
  rw [dec_toList]
  constructor
  · intro h; exact dec_inj (h.trans (dec_small (by omega : 0 < 10)).symm)
  · rintro rfl; rw [dec_small (by omega)]; rfl
theorem dec49 (n : Nat) : (Sp.dec n).toList = [49] ↔ n = 1 := by
  rw [dec_toList]
  constructor
  · intro h; exact dec_inj (h.trans (dec_small (by omega : 1 < 10)).symm)
  · rintro rfl; rw [dec_small (by omega)]; rfl
theorem dec_size_iff {n k : Nat} : (Sp.dec n).size ≤ k + 1 ↔ n < 10 ^ (k + 1) := dec_len_iff k n
def sg (neg : Bool) (x : Nat) : Int := if neg then -(x : Int) else x
theorem sg_abs (neg : Bool) (x : Nat) : (sg neg x).natAbs = x := by unfold sg; split <;> simp
theorem lowest_val (neg : Bool) (x y : Nat) (hy : y ≠ 0) (hx : x < 10 ^ 300) (hy3 : y < 10 ^ 300) : ratio_lowest.f neg (Sp.dec x) (Sp.dec y) = some (Sp.okR (mkRat (sg neg x) y)) := by
  have ix := isNat_dec hx
  have iy := isNat_dec hy3
  have hg0 : 0 < Nat.gcd x y := Nat.gcd_pos_of_pos_right _ (Nat.pos_of_ne_zero hy)
  have hgl : Nat.gcd x y < 10 ^ 300 := Nat.lt_of_le_of_lt (Nat.gcd_le_right _ (Nat.pos_of_ne_zero hy)) hy3
  have ig := isNat_dec hgl
  have hxg : x / Nat.gcd x y < 10 ^ 300 := Nat.lt_of_le_of_lt (Nat.div_le_self _ _) hx
  unfold ratio_lowest.f
  have e1 : natural_Gcd.f (Sp.dec x) (Sp.dec y) = some (Sp.dec (Nat.gcd x y), 0) := by
    unfold natural_Gcd.f Sp.natOp
    rw [ix, iy, nval_dec, nval_dec]
    rfl
  have e2 : natural_Div.f (Sp.dec x) (Sp.dec (Nat.gcd x y)) = some (Sp.dec (x / Nat.gcd x y), Sp.dec (x % Nat.gcd x y), 0) := by
    unfold natural_Div.f
    rw [ix, ig, nval_dec, nval_dec, if_neg (by omega : ¬ Nat.gcd x y = 0)]
    rfl
  have e3 : natural_Div.f (Sp.dec y) (Sp.dec (Nat.gcd x y)) = some (Sp.dec (y / Nat.gcd x y), Sp.dec (y % Nat.gcd x y), 0) := by
    unfold natural_Div.f
    rw [iy, ig, nval_dec, nval_dec, if_neg (by omega : ¬ Nat.gcd x y = 0)]
    rfl
  rw [e1, Option.bind_some, if_pos rfl, e2, Option.bind_some, if_pos rfl, e3, Option.bind_some, if_pos rfl]
  have hn : (mkRat (sg neg x) y).num = sg neg (x / Nat.gcd x y) := by
    rw [Rat.num_mkRat, if_neg hy]
    have ea : (sg neg x).natAbs = x := by unfold sg; split <;> simp
    rw [ea, Nat.gcd_comm y x]
    unfold sg
    split
    · rw [Int.neg_ediv_of_dvd (Int.natCast_dvd_natCast.2 (Nat.gcd_dvd_left x y))]; simp
    · simp
  have hd : (mkRat (sg neg x) y).den = y / Nat.gcd x y := by
    rw [Rat.den_mkRat, if_neg hy]
    have ea : (sg neg x).natAbs = x := by unfold sg; split <;> simp
    rw [ea, Nat.gcd_comm y x]
  unfold Sp.okR Sp.enc
  rw [hn, hd]
  have ea := sg_abs neg (x / Nat.gcd x y)
  rw [ea]
  generalize x / Nat.gcd x y = u
  cases neg
  · have : ¬ (sg false u < 0) := by unfold sg; simp
    rw [decide_eq_false this]
    rfl
  · rw [if_pos rfl]
    congr 2
    by_cases hu : u = 0
    · subst hu
      have h1 := (dec48 0).2 rfl
      rw [h1]
      rfl
    · have h1 : ¬ (Sp.dec u).toList = [48] := fun h => hu ((dec48 u).1 h)
      have : sg true u < 0 := by unfold sg; simp; omega
      rw [decide_eq_true this]
      exact bne_iff_ne.2 h1
theorem valid_val (neg : Bool) (num den : ByteArray) (k : Nat) : ratio_Valid.f (k + 1) neg num den = some (Sp.vld neg num den) := by
  unfold ratio_Valid.f natural_Is.f Sp.vld
  rw [Option.bind_some]
  cases hn : Sp.isNat num
  · rw [if_neg (by decide), ratio_Valid.j0, if_pos rfl]; simp
  · rw [if_pos rfl, Option.bind_some]
    cases hd : Sp.isNat den
    · rw [if_neg (by decide), ratio_Valid.j0, if_pos rfl]; simp
    · rw [if_pos rfl, ratio_Valid.j0]
      obtain ⟨x, hx⟩ : ∃ x, Sp.nval num = x := ⟨_, rfl⟩
      obtain ⟨y, hy⟩ : ∃ y, Sp.nval den = y := ⟨_, rfl⟩
      have ex : num = Sp.dec x := by rw [← hx, dec_nval hn]
      have ey : den = Sp.dec y := by rw [← hy, dec_nval hd]
      rw [hx, hy]
      by_cases hy0 : y = 0
      · have : (den.toList == [48]) = true := by rw [ey, beq_iff_eq]; exact (dec48 y).2 hy0
        rw [this, if_pos rfl, hy0]; simp
      · have h1 : (den.toList == [48]) = false := by rw [ey, beq_eq_false_iff_ne]; exact fun h => hy0 ((dec48 y).1 h)
        rw [h1, if_neg (by decide)]
        by_cases hx0 : x = 0
        · have h2 : num.toList = [48] := by rw [ex]; exact (dec48 x).2 hx0
          rw [if_pos h2, h2, hx0]
          have h4 : decide (Nat.gcd 0 y = 1) = decide (y = 1) := by
            by_cases h : y = 1
            · rw [decide_eq_true h]; exact decide_eq_true (by rw [Nat.gcd_zero_left]; exact h)
            · rw [decide_eq_false h]; exact decide_eq_false (by rw [Nat.gcd_zero_left]; exact h)
          rw [h4]
          have h3 : (den.toList == [49]) = decide (y = 1) := by
            by_cases h : y = 1
            · rw [decide_eq_true h, beq_iff_eq, ey]; exact (dec49 y).2 h
            · rw [decide_eq_false h, beq_eq_false_iff_ne, ey]; exact fun h2 => h ((dec49 y).1 h2)
          rw [h3]
          cases neg <;> simp [hy0]
        · have h2 : ¬ num.toList = [48] := by rw [ex]; exact fun h => hx0 ((dec48 x).1 h)
          rw [if_neg h2]
          have e1 : natural_Gcd.f num den = some (Sp.dec (Nat.gcd x y), 0) := by
            unfold natural_Gcd.f Sp.natOp
            rw [hn, hd, hx, hy]
            rfl
          rw [e1, Option.bind_some, if_pos rfl]
          have h3 : ((Sp.dec (Nat.gcd x y)).toList == [49]) = decide (Nat.gcd x y = 1) := by
            by_cases h : Nat.gcd x y = 1
            · rw [decide_eq_true h, beq_iff_eq]; exact (dec49 _).2 h
            · rw [decide_eq_false h, beq_eq_false_iff_ne]; exact fun h2 => h ((dec49 _).1 h2)
          rw [h3]
          simp [hy0, hx0]
end Go.Proofs.YtmkanjcehhbmlaaGreatDoor.Pr
end
