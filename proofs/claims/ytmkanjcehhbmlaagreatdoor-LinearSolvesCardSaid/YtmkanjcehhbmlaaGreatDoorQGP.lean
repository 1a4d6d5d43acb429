/- What the printed loops of the laws answer: Few, Same, applied. What applied answers: the sums of products, exactly, or false. LinearSolves and LinearOnly, as printed, answer true for all numbers. -/
import Derived.Test.YtmkanjcehhbmlaaGreatDoorQBuild
import Derived.Test.YtmkanjcehhbmlaaGreatDoorQFmt
import Derived.Test.YtmkanjcehhbmlaaGreatDoorQGL1
import Derived.Test.YtmkanjcehhbmlaaGreatDoorQGL2
import Derived.Test.YtmkanjcehhbmlaaGreatDoorQGN
import Derived.Test.YtmkanjcehhbmlaaGreatDoorQGN2
import Derived.Test.YtmkanjcehhbmlaaGreatDoorQGN3
import Derived.Test.YtmkanjcehhbmlaaGreatDoorQGRR
import Derived.Test.YtmkanjcehhbmlaaGreatDoorQGW
import Derived.Test.YtmkanjcehhbmlaaGreatDoorQGW2
import Derived.Test.YtmkanjcehhbmlaaGreatDoorQHead19
import Derived.Test.YtmkanjcehhbmlaaGreatDoorQLinQ
import Derived.Test.YtmkanjcehhbmlaaGreatDoorQLinS
import Derived.Test.YtmkanjcehhbmlaaGreatDoorQNatApply
import Derived.Test.YtmkanjcehhbmlaaGreatDoorQNatS
import Derived.Test.YtmkanjcehhbmlaaGreatDoorQNum
import Derived.Test.YtmkanjcehhbmlaaGreatDoorQNumAdd
import Derived.Test.YtmkanjcehhbmlaaGreatDoorQNumCmp
import Derived.Test.YtmkanjcehhbmlaaGreatDoorQNumDiv
import Derived.Test.YtmkanjcehhbmlaaGreatDoorQNumIs
import Derived.Test.YtmkanjcehhbmlaaGreatDoorQNumMul
import Derived.Test.YtmkanjcehhbmlaaGreatDoorQNumOps
import Derived.Test.YtmkanjcehhbmlaaGreatDoorQNumParse
import Derived.Test.YtmkanjcehhbmlaaGreatDoorQNumText
import Derived.Test.YtmkanjcehhbmlaaGreatDoorQNumVal
import Derived.Test.YtmkanjcehhbmlaaGreatDoorQPrA1
import Derived.Test.YtmkanjcehhbmlaaGreatDoorQPrA11
import Derived.Test.YtmkanjcehhbmlaaGreatDoorQPrA3
import Derived.Test.YtmkanjcehhbmlaaGreatDoorQPrA4
import Derived.Test.YtmkanjcehhbmlaaGreatDoorQPrA5
import Derived.Test.YtmkanjcehhbmlaaGreatDoorQPrA6
import Derived.Test.YtmkanjcehhbmlaaGreatDoorQPrB1
import Derived.Test.YtmkanjcehhbmlaaGreatDoorQPrB2
import Derived.Test.YtmkanjcehhbmlaaGreatDoorQPrC1
import Derived.Test.YtmkanjcehhbmlaaGreatDoorQPrC2
import Derived.Test.YtmkanjcehhbmlaaGreatDoorQPrE1
import Derived.Test.YtmkanjcehhbmlaaGreatDoorQRatOf
import Derived.Test.YtmkanjcehhbmlaaGreatDoorQRatOps
import Derived.Test.YtmkanjcehhbmlaaGreatDoorQRatProd
import Derived.Test.YtmkanjcehhbmlaaGreatDoorQRatS
import Derived.Test.YtmkanjcehhbmlaaGreatDoorQRatSub1
import Derived.Test.YtmkanjcehhbmlaaGreatDoorQRatSum
import Derived.Test.YtmkanjcehhbmlaaGreatDoorQRatVal
import Derived.Test.YtmkanjcehhbmlaaGreatDoorQRatWrap
import Derived.Test.YtmkanjcehhbmlaaGreatDoorQRegInv
import Derived.Test.YtmkanjcehhbmlaaGreatDoorQShelf
import Derived.Test.YtmkanjcehhbmlaaGreatDoorQSpec
import Derived.Test.YtmkanjcehhbmlaaGreatDoorQTab
import Derived.Test.YtmkanjcehhbmlaaGreatDoorQWLast
set_option linter.all false
section
namespace Go.Proofs.YtmkanjcehhbmlaaGreatDoor.Pr
set_option linter.unusedSimpArgs false
set_option linter.unusedVariables false
open Go.RowKit Go.Proofs.YtmkanjcehhbmlaaGreatDoorW.PrintWords Ga
theorem wr1 {i n : Nat} (h : i < n) (hn : n ≤ 9223372036854775807) : wrap64 ((i : Int) + 1) = ((i + 1 : Nat) : Int) := by unfold wrap64; omega
theorem rdT (xs : List SR) (j : Nat) : rd_T31 xs (j : Int) = rdS xs j := rfl
abbrev BIG : Nat := 9223372036854775807
theorem same_l0 (a b : List SR) (hl : a.length = b.length) (hb : a.length ≤ BIG) : ∀ d i, i + d = a.length → ∃ r : Bool, Ev (fun k => customhouseref19_Same.l0 k a b (i : Nat)) r ∧ (r = true ↔ a.drop i = b.drop i)
  | 0, i, h => by
    refine ⟨true, Ev.step (f := fun _ => some true) (fun k => by simp only [customhouseref19_Same.l0]; rw [if_neg (by omega)]) (Ev.now true), ?_⟩
    have : a.drop i = b.drop i := by rw [List.drop_eq_nil_of_le (by omega), List.drop_eq_nil_of_le (by omega)]
    simp [this]
  | d + 1, i, h => by
    have ea : a.drop i = rdS a i :: a.drop (i + 1) := by
      unfold rdS; rw [List.getD_eq_getElem?_getD, List.getElem?_eq_getElem (by omega)]; exact List.drop_eq_getElem_cons (by omega)
    have eb : b.drop i = rdS b i :: b.drop (i + 1) := by
      unfold rdS; rw [List.getD_eq_getElem?_getD, List.getElem?_eq_getElem (by omega)]; exact List.drop_eq_getElem_cons (by omega)
    have hw := wr1 (i := i) (n := a.length) (by omega) hb
    have tl : ∀ x y : ByteArray, x.toList = y.toList → x = y := fun x y h => by
      have := congrArg List.toArray h
      rw [Lib.toList_data, Lib.toList_data] at this
      cases x; cases y; simpa using this
    rcases Classical.em (rdS a i = rdS b i) with e | e
    · obtain ⟨r, h1, h2⟩ := same_l0 a b hl hb d (i + 1) (by omega)
      refine ⟨r, Ev.step (fun k => ?_) h1, h2.trans (by rw [ea, eb, e]; simp)⟩
      simp only [customhouseref19_Same.l0]
      rw [if_pos (by omega), if_pos (by omega), if_pos (by omega), rdT, rdT, e, if_neg (by simp), hw]
    · refine ⟨false, Ev.step (f := fun _ => some false) (fun k => ?_) (Ev.now false), by simp only [Bool.false_eq_true, false_iff]; rw [ea, eb]; intro h; injection h with h1 _; exact e h1⟩
      simp only [customhouseref19_Same.l0]
      rw [if_pos (by omega), if_pos (by omega), if_pos (by omega), rdT, rdT, if_pos]
      rcases Classical.em ((rdS a i).f0 = (rdS b i).f0) with h0 | h0
      · rcases Classical.em ((rdS a i).f1.toList = (rdS b i).f1.toList) with h1 | h1
        · have h2 : ¬ (rdS a i).f2.toList = (rdS b i).f2.toList := fun h2 => e (by
            have g1 := tl _ _ h1; have g2 := tl _ _ h2
            cases ha : rdS a i; cases hb' : rdS b i; rw [ha, hb'] at h0 g1 g2; simp only at h0 g1 g2; rw [h0, g1, g2])
          simp [h2]
        · simp [h1]
      · simp [h0]
theorem same_ev (a b : List SR) (hb : a.length ≤ BIG) : ∃ r : Bool, Ev (fun k => customhouseref19_Same.f k a b) r ∧ (r = true ↔ a = b) := by
  by_cases hl : a.length = b.length
  · obtain ⟨r, h1, h2⟩ := same_l0 a b hl hb a.length 0 (by omega)
    refine ⟨r, Ev.congr (fun k => ?_) h1, by simpa using h2⟩
    unfold customhouseref19_Same.f
    rw [if_pos (by omega)]; rfl
  · refine ⟨false, Ev.congr (fun k => ?_) (Ev.now false), by simp; intro h; exact hl (by rw [h])⟩
    unfold customhouseref19_Same.f
    rw [if_neg (by omega)]
theorem few_l2 (x0 : List (List SR)) (x1 : List SR) (hb : x1.length ≤ BIG) : ∀ d x5 i, i + d = x1.length → ∃ r, Ev (fun k => customhouseref19_Few.l2 k x0 x1 x5 (i : Nat)) r ∧ (r = true → x0.length ≤ 12 ∧ x1.length ≤ 12)
  | 0, x5, i, h => by
    refine ⟨_, Ev.step (f := fun _ => some (if (x0.length : Int) ≤ 12 then (if (x1.length : Int) ≤ 12 then (if (x0.length : Int) < (x1.length : Int) then (if (x1.length : Int) < 1 then (decide ((wrap64 (1 * x5)) ≤ 48)) else (decide ((wrap64 ((x1.length : Int) * x5)) ≤ 48))) else (if (x0.length : Int) < 1 then (decide ((wrap64 (1 * x5)) ≤ 48)) else (decide ((wrap64 ((x0.length : Int) * x5)) ≤ 48)))) else false) else false)) (fun k => ?_) (Ev.now _), fun hr => ?_⟩
    · simp only [customhouseref19_Few.l2]
      rw [if_neg (by omega)]
      repeat' split
      all_goals rfl
    · by_cases h1 : (x0.length : Int) ≤ 12
      · rw [if_pos h1] at hr
        by_cases h2 : (x1.length : Int) ≤ 12
        · omega
        · rw [if_neg h2] at hr; cases hr
      · rw [if_neg h1] at hr; cases hr
  | d + 1, x5, i, h => by
    have hw := wr1 (i := i) (n := x1.length) (by omega) hb
    obtain ⟨y, hy⟩ : ∃ y, ∀ k, customhouseref19_Few.l2 (k + 1) x0 x1 x5 (i : Nat) = customhouseref19_Few.l2 k x0 x1 y ((i + 1 : Nat) : Int) := by
      refine ⟨if x5 < (((rdS x1 i).f1).size : Int) then (if (((rdS x1 i).f1).size : Int) < (((rdS x1 i).f2).size : Int) then (((rdS x1 i).f2).size : Int) else (((rdS x1 i).f1).size : Int)) else (if x5 < (((rdS x1 i).f2).size : Int) then (((rdS x1 i).f2).size : Int) else x5), fun k => ?_⟩
      simp only [customhouseref19_Few.l2]
      rw [if_pos (by omega), if_pos (by omega), rdT, hw]
      repeat' split
      all_goals rfl
    obtain ⟨r, h1, h2⟩ := few_l2 x0 x1 hb d y (i + 1) (by omega)
    exact ⟨r, Ev.step hy h1, h2⟩
mutual
theorem few_l0 (x0 : List (List SR)) (x1 : List SR) (hb0 : x0.length ≤ BIG) (hb1 : x1.length ≤ BIG) (hbr : ∀ r ∈ x0, r.length ≤ BIG) : ∀ d x5 i, i + d = x0.length → (∀ j, j < i → (x0.getD j []).length ≤ 12) → ∃ r, Ev (fun k => customhouseref19_Few.l0 k x0 x1 x5 (i : Nat)) r ∧ (r = true → x0.length ≤ 12 ∧ x1.length ≤ 12 ∧ ∀ j, j < x0.length → (x0.getD j []).length ≤ 12)
  | 0, x5, i, h, hj => by
    obtain ⟨r, h1, h2⟩ := few_l2 x0 x1 hb1 x1.length x5 0 (by omega)
    refine ⟨r, Ev.step (fun k => ?_) h1, fun hr => ⟨(h2 hr).1, (h2 hr).2, fun j hjl => hj j (by omega)⟩⟩
    simp only [customhouseref19_Few.l0]
    rw [if_neg (by omega)]; rfl
  | d + 1, x5, i, h, hj => by
    by_cases hlen : (x0.getD i []).length ≤ 12
    · obtain ⟨r, h1, h2⟩ := few_l1 x0 x1 hb0 hb1 hbr d x5 i (by omega) hj hlen (x0.getD i []).length 0 (by omega)
      refine ⟨r, Ev.step (fun k => ?_) h1, h2⟩
      simp only [customhouseref19_Few.l0]
      rw [if_pos (by omega), if_pos (by omega), if_neg (show ¬ ((rd_L3 x0 (i : Nat)).length : Int) > 12 from by show ¬ ((x0.getD i []).length : Int) > 12; omega)]; rfl
    · refine ⟨false, Ev.step (f := fun _ => some false) (fun k => ?_) (Ev.now false), fun h => by cases h⟩
      simp only [customhouseref19_Few.l0]
      rw [if_pos (by omega), if_pos (by omega), if_pos (show ((rd_L3 x0 (i : Nat)).length : Int) > 12 from by show ((x0.getD i []).length : Int) > 12; omega)]
  termination_by d _ i => (d, 0, 0)
theorem few_l1 (x0 : List (List SR)) (x1 : List SR) (hb0 : x0.length ≤ BIG) (hb1 : x1.length ≤ BIG) (hbr : ∀ r ∈ x0, r.length ≤ BIG) : ∀ d x5 i, i + 1 + d = x0.length → (∀ j, j < i → (x0.getD j []).length ≤ 12) → (x0.getD i []).length ≤ 12 → ∀ e j, j + e = (x0.getD i []).length → ∃ r, Ev (fun k => customhouseref19_Few.l1 k x0 x1 x5 (i : Nat) (j : Nat)) r ∧ (r = true → x0.length ≤ 12 ∧ x1.length ≤ 12 ∧ ∀ j, j < x0.length → (x0.getD j []).length ≤ 12)
  | d, x5, i, h, hj, hlen, 0, j, he => by
    have hw := wr1 (i := i) (n := x0.length) (by omega) hb0
    obtain ⟨r, h1, h2⟩ := few_l0 x0 x1 hb0 hb1 hbr d x5 (i + 1) (by omega) (fun j' hj' => by
      by_cases e : j' = i
      · subst e; exact hlen
      · exact hj j' (by omega))
    refine ⟨r, Ev.step (fun k => ?_) h1, h2⟩
    simp only [customhouseref19_Few.l1]
    rw [if_pos (by omega), if_pos (by omega), if_neg (show ¬ ((j : Nat) : Int) < ((rd_L3 x0 (i : Nat)).length : Int) from by show ¬ ((j : Nat) : Int) < ((x0.getD i []).length : Int); omega), hw]
  | d, x5, i, h, hj, hlen, e + 1, j, he => by
    have hw := wr1 (i := j) (n := (x0.getD i []).length) (by omega) (by omega)
    obtain ⟨y, hy⟩ : ∃ y, ∀ k, customhouseref19_Few.l1 (k + 1) x0 x1 x5 (i : Nat) (j : Nat) = customhouseref19_Few.l1 k x0 x1 y (i : Nat) ((j + 1 : Nat) : Int) := by
      refine ⟨if x5 < (((rdS (x0.getD i []) j).f1).size : Int) then (if (((rdS (x0.getD i []) j).f1).size : Int) < (((rdS (x0.getD i []) j).f2).size : Int) then (((rdS (x0.getD i []) j).f2).size : Int) else (((rdS (x0.getD i []) j).f1).size : Int)) else (if x5 < (((rdS (x0.getD i []) j).f2).size : Int) then (((rdS (x0.getD i []) j).f2).size : Int) else x5), fun k => ?_⟩
      simp only [customhouseref19_Few.l1]
      rw [if_pos (by omega), if_pos (by omega), if_pos (show ((j : Nat) : Int) < ((rd_L3 x0 (i : Nat)).length : Int) from by show ((j : Nat) : Int) < ((x0.getD i []).length : Int); omega), if_pos (by omega), rdT, show rd_L3 x0 (i : Nat) = x0.getD i [] from rfl, hw]
      repeat' split
      all_goals rfl
    obtain ⟨r, h1, h2⟩ := few_l1 x0 x1 hb0 hb1 hbr d y i h hj hlen e (j + 1) (by omega)
    exact ⟨r, Ev.step hy h1, h2⟩
  termination_by d _ i _ _ _ e j => (d, 1, e)
end
theorem few_ev (x0 : List (List SR)) (x1 : List SR) (hb0 : x0.length ≤ BIG) (hb1 : x1.length ≤ BIG) (hbr : ∀ r ∈ x0, r.length ≤ BIG) : ∃ r, Ev (fun k => customhouseref19_Few.f k x0 x1) r ∧ (r = true → x0.length ≤ 12 ∧ x1.length ≤ 12 ∧ ∀ j, j < x0.length → (x0.getD j []).length ≤ 12) :=
  few_l0 x0 x1 hb0 hb1 hbr x0.length 1 0 (by omega) (fun j h => absurd h (by omega))
end Go.Proofs.YtmkanjcehhbmlaaGreatDoor.Pr
end

section
namespace Go.Proofs.YtmkanjcehhbmlaaGreatDoor.Pr
set_option linter.unusedSimpArgs false
set_option linter.unusedVariables false
open Go.RowKit Go.Proofs.YtmkanjcehhbmlaaGreatDoorW.PrintWords Ga
def zR : SR := ⟨false, ⟨#[48]⟩, ⟨#[49]⟩⟩
theorem num0 : customhouselaw19_number.f 0 = some (zR.f0, zR.f1, zR.f2) := by kernel_rfl
theorem zR_vld : vldS zR = true := by kernel_rfl
theorem zR_val : toQ zR = 0 := (isZ_iff zR_vld).1 (by kernel_rfl)
theorem ok_use {r : SR × Int} {q : Rat} (h : Ok r q) (h0 : r.2 = 0) : vldS r.1 = true ∧ toQ r.1 = q := by
  rcases h with ⟨_, h1, h2⟩ | h
  · exact ⟨h1, h2⟩
  · rw [h] at h0; cases h0
/-- One product and one sum. -/
def stepS (s a x : SR) : SR × Int := if (mulS a x).2 = 0 then addS s (mulS a x).1 else mulS a x
theorem app_round (k : Nat) (x0 : List (List SR)) (x1 x6 : List SR) (i j : Nat) (s : SR) (hi : i < x0.length) (hj : j < x1.length) (hr : (x0.getD i []).length = x1.length) (hb : x1.length ≤ BIG) :
    customhouselaw19_applied.l1 (k + 1) x0 x1 x6 (i : Nat) (j : Nat) s.f0 s.f1 s.f2 =
      if (stepS s (rdS (x0.getD i []) j) (rdS x1 j)).2 = 0 then customhouselaw19_applied.l1 k x0 x1 x6 (i : Nat) ((j + 1 : Nat) : Int) (stepS s (rdS (x0.getD i []) j) (rdS x1 j)).1.f0 (stepS s (rdS (x0.getD i []) j) (rdS x1 j)).1.f1 (stepS s (rdS (x0.getD i []) j) (rdS x1 j)).1.f2 else some ([], false) := by
  have hw := wr1 (i := j) (n := x1.length) hj hb
  simp only [customhouselaw19_applied.l1]
  rw [if_pos (by omega), if_pos (by omega), if_pos (by omega), if_pos (by omega), if_pos (show ((j : Nat) : Int) < ((rd_L3 x0 (i : Nat)).length : Int) from by show ((j : Nat) : Int) < ((x0.getD i []).length : Int); omega), rdT, rdT, show rd_L3 x0 (i : Nat) = x0.getD i [] from rfl, hw]
  generalize rdS (x0.getD i []) j = a
  generalize rdS x1 j = x
  unfold ratio_Mul.f ratio_Add.f stepS
  rw [Option.bind_some, Option.bind_some]
  by_cases h : (mulS a x).2 = 0
  · have h' : (Sp.ratOp false (· * ·) a.f0 a.f1 a.f2 x.f0 x.f1 x.f2).2.2.2 = 0 := h
    rw [if_pos h, if_pos h']
    rfl
  · have h' : ¬ (Sp.ratOp false (· * ·) a.f0 a.f1 a.f2 x.f0 x.f1 x.f2).2.2.2 = 0 := h
    rw [if_neg h, if_neg h', if_neg h]
theorem app_l1 (x0 : List (List SR)) (x1 x6 : List SR) (i : Nat) (hi : i < x0.length) (hr : (x0.getD i []).length = x1.length) (hb0 : x0.length ≤ BIG) (hb : x1.length ≤ BIG) (h6 : x6.length < 3518437208883) : ∀ e j s, j + e = x1.length → vldS s = true →
    (∃ s', vldS s' = true ∧ toQ s' + sumN j (fun t => toQ (rdS (x0.getD i []) t) * toQ (rdS x1 t)) = toQ s + sumN x1.length (fun t => toQ (rdS (x0.getD i []) t) * toQ (rdS x1 t)) ∧
      (∀ t, j ≤ t → t < x1.length → vldS (rdS (x0.getD i []) t) = true ∧ vldS (rdS x1 t) = true) ∧
      ∀ r, Ev (fun k => customhouselaw19_applied.l0 k x0 x1 (x6 ++ [s']) ((i + 1 : Nat) : Int)) r → Ev (fun k => customhouselaw19_applied.l1 k x0 x1 x6 (i : Nat) (j : Nat) s.f0 s.f1 s.f2) r) ∨
    Ev (fun k => customhouselaw19_applied.l1 k x0 x1 x6 (i : Nat) (j : Nat) s.f0 s.f1 s.f2) ([], false)
  | 0, j, s, h, hs => by
    obtain rfl : j = x1.length := by omega
    refine .inl ⟨s, hs, rfl, fun t h1 h2 => by omega, fun r hr' => Ev.step (fun k => ?_) hr'⟩
    have hw := wr1 (i := i) (n := x0.length) hi hb0
    simp only [customhouselaw19_applied.l1]
    rw [if_neg (by omega), if_pos h6, hw]
  | e + 1, j, s, h, hs => by
    have hj : j < x1.length := by omega
    obtain ⟨q, hq⟩ : ∃ q, stepS s (rdS (x0.getD i []) j) (rdS x1 j) = q := ⟨_, rfl⟩
    have hround := fun k => app_round k x0 x1 x6 i j s hi hj hr hb
    rw [hq] at hround
    by_cases h0 : q.2 = 0
    · have hm : (mulS (rdS (x0.getD i []) j) (rdS x1 j)).2 = 0 := by
        by_cases hm : (mulS (rdS (x0.getD i []) j) (rdS x1 j)).2 = 0
        · exact hm
        · unfold stepS at hq; rw [if_neg hm] at hq; rw [hq] at hm; exact absurd h0 hm
      obtain ⟨v1, v2⟩ := op_vld hm
      obtain ⟨p1, p2⟩ := ok_use (mul_ok v1 v2) hm
      unfold stepS at hq
      rw [if_pos hm] at hq
      obtain ⟨q1, q2⟩ := ok_use (add_ok hs p1) (by rw [hq]; exact h0)
      rw [hq] at q1 q2
      rcases app_l1 x0 x1 x6 i hi hr hb0 hb h6 e (j + 1) q.1 (by omega) q1 with ⟨s', a1, a2, a3, a4⟩ | a
      · refine .inl ⟨s', a1, ?_, fun t ht1 ht2 => ?_, fun r hr' => Ev.step (fun k => (hround k).trans (if_pos h0)) (a4 r hr')⟩
        · rw [q2, p2, sumN] at a2
          grind
        · by_cases e1 : t = j
          · subst e1; exact ⟨v1, v2⟩
          · exact a3 t (by omega) ht2
      · exact .inr (Ev.step (fun k => (hround k).trans (if_pos h0)) a)
    · exact .inr (Ev.step (f := fun _ => some ([], false)) (fun k => (hround k).trans (if_neg h0)) (Ev.now _))
theorem rdS_app (xs : List SR) (s : SR) (t : Nat) : rdS (xs ++ [s]) t = if t < xs.length then rdS xs t else if t = xs.length then s else rdS [] t := by
  unfold rdS
  rw [List.getD_eq_getElem?_getD]
  by_cases h : t < xs.length
  · rw [if_pos h, List.getElem?_append_left h, List.getD_eq_getElem?_getD]
  · rw [if_neg h, List.getElem?_append_right (by omega)]
    by_cases e : t = xs.length
    · rw [if_pos e, e, Nat.sub_self]; rfl
    · rw [if_neg e, List.getElem?_eq_none (by simp; omega)]; rfl
theorem app_l0 (x0 : List (List SR)) (x1 : List SR) (hb0 : x0.length ≤ 1000) (hb : x1.length ≤ BIG) : ∀ d i out, i + d = x0.length → out.length = i →
    ∃ res, Ev (fun k => customhouselaw19_applied.l0 k x0 x1 out (i : Nat)) res ∧ (res.2 = true → res.1.length = x0.length ∧ (∀ t, t < i → rdS res.1 t = rdS out t) ∧ ∀ t, i ≤ t → t < x0.length → (x0.getD t []).length = x1.length ∧ vldS (rdS res.1 t) = true ∧ toQ (rdS res.1 t) = sumN x1.length (fun j => toQ (rdS (x0.getD t []) j) * toQ (rdS x1 j)) ∧ ∀ j, j < x1.length → vldS (rdS (x0.getD t []) j) = true ∧ vldS (rdS x1 j) = true)
  | 0, i, out, h, ho => by
    refine ⟨(out, true), Ev.step (f := fun _ => some (out, true)) (fun k => ?_) (Ev.now _), fun _ => ⟨by dsimp only; omega, fun t _ => rfl, fun t h1 h2 => by omega⟩⟩
    simp only [customhouselaw19_applied.l0]
    rw [if_neg (by omega)]
  | d + 1, i, out, h, ho => by
    by_cases hr : (x0.getD i []).length = x1.length
    · have hstep : ∀ k, customhouselaw19_applied.l0 (k + 1) x0 x1 out (i : Nat) = customhouselaw19_applied.l1 k x0 x1 out (i : Nat) ((0 : Nat) : Int) zR.f0 zR.f1 zR.f2 := fun k => by
        simp only [customhouselaw19_applied.l0]
        rw [if_pos (by omega), num0, Option.bind_some, if_pos (by omega), if_pos (show ((rd_L3 x0 (i : Nat)).length : Int) = (x1.length : Int) from by show ((x0.getD i []).length : Int) = _; omega)]
        rfl
      rcases app_l1 x0 x1 out i (by omega) hr (by unfold BIG; omega) hb (by omega) x1.length 0 zR (by omega) zR_vld with ⟨s', a1, a2, a3, a4⟩ | a
      · obtain ⟨res, b1, b2⟩ := app_l0 x0 x1 hb0 hb d (i + 1) (out ++ [s']) (by omega) (by rw [List.length_append, ho]; rfl)
        refine ⟨res, Ev.step hstep (a4 res b1), fun hres => ?_⟩
        obtain ⟨c1, c2, c3⟩ := b2 hres
        refine ⟨c1, fun t ht => ?_, fun t h1 h2 => ?_⟩
        · rw [c2 t (by omega), rdS_app, if_pos (by omega)]
        · by_cases e : t = i
          · subst e
            have e1 : rdS res.1 t = s' := by rw [c2 t (by omega), rdS_app, if_neg (by omega), if_pos (by omega)]
            rw [e1]
            refine ⟨hr, a1, ?_, fun j hj => a3 j (by omega) hj⟩
            rw [zR_val] at a2
            simp only [sumN] at a2
            grind
          · exact c3 t (by omega) h2
      · exact ⟨([], false), Ev.step hstep a, fun h => by cases h⟩
    · refine ⟨([], false), Ev.step (f := fun _ => some ([], false)) (fun k => ?_) (Ev.now _), fun h => by cases h⟩
      simp only [customhouselaw19_applied.l0]
      rw [if_pos (by omega), num0, Option.bind_some, if_pos (by omega), if_neg (show ¬ ((rd_L3 x0 (i : Nat)).length : Int) = (x1.length : Int) from by show ¬ ((x0.getD i []).length : Int) = _; omega)]
theorem applied_ev (x0 : List (List SR)) (x1 : List SR) (hb0 : x0.length ≤ 1000) (hb : x1.length ≤ BIG) :
    ∃ res, Ev (fun k => customhouselaw19_applied.f k x0 x1) res ∧ (res.2 = true → res.1.length = x0.length ∧ ∀ t, t < x0.length → (x0.getD t []).length = x1.length ∧ vldS (rdS res.1 t) = true ∧ toQ (rdS res.1 t) = sumN x1.length (fun j => toQ (rdS (x0.getD t []) j) * toQ (rdS x1 j)) ∧ ∀ j, j < x1.length → vldS (rdS (x0.getD t []) j) = true ∧ vldS (rdS x1 j) = true) := by
  obtain ⟨res, h1, h2⟩ := app_l0 x0 x1 hb0 hb x0.length 0 [] (by omega) rfl
  exact ⟨res, h1, fun h => ⟨(h2 h).1, fun t ht => (h2 h).2.2 t (Nat.zero_le _) ht⟩⟩
theorem list_ext {a b : List SR} (hl : a.length = b.length) (h : ∀ i, i < a.length → rdS a i = rdS b i) : a = b := by
  apply List.ext_getElem hl
  intro i h1 h2
  have := h i h1
  unfold rdS at this
  rw [List.getD_eq_getElem?_getD, List.getD_eq_getElem?_getD, List.getElem?_eq_getElem h1, List.getElem?_eq_getElem h2] at this
  exact this
end Go.Proofs.YtmkanjcehhbmlaaGreatDoor.Pr
end

section
namespace Go.Proofs.YtmkanjcehhbmlaaGreatDoor.Pr
set_option linter.unusedSimpArgs false
set_option linter.unusedVariables false
open Go.RowKit Go.Proofs.YtmkanjcehhbmlaaGreatDoorW.PrintWords Ga
theorem solve_f {l0 : List (List SR)} {l1 : List SR} (h0 : l0.length ≤ 1000) (h1 : l1.length ≤ 1000) (hr : ∀ j, j < l0.length → (l0.getD j []).length ≤ 1000) : linear_Solve.f l0 l1 = some (linF l0 l1) := by
  unfold linear_Solve.f
  rw [if_pos ⟨by omega, by omega, fun r hm => by
    obtain ⟨j, hj, rfl⟩ := List.getElem_of_mem hm
    have := hr j hj
    rw [List.getD_eq_getElem?_getD, List.getElem?_eq_getElem hj] at this
    simpa using Nat.le_trans this (by omega : 1000 ≤ 100000)⟩]
theorem lin_cases (l0 : List (List SR)) (l1 : List SR) : linF l0 l1 = ([], 1) ∨ linF l0 l1 = ([], 2) ∨ (linF l0 l1 = ([], 12)) ∨ (goodA l0 l1 = true ∧ (linF l0 l1).2 = 0) := by
  cases h : goodA l0 l1
  · exact .inl (linF_bad h)
  · rcases linF_ok h with h1 | h1 | h1
    · exact .inr (.inl h1)
    · exact .inr (.inr (.inl h1.1))
    · exact .inr (.inr (.inr ⟨rfl, h1.1⟩))
/-- The system's rows as numbers. -/
theorem sysQ_row {l0 : List (List SR)} {l1 : List SR} {i j : Nat} (hl : (l0.getD i []).length = l1.length) (hj : j < l1.length) : sysQ l0 l1 i j = toQ (rdS (l0.getD i []) j) := by
  unfold sysQ qM
  rw [sysM_rd hl (by omega), if_neg (by omega)]
theorem pure_solves (l0 : List (List SR)) (l1 : List SR) (hb0 : l0.length ≤ BIG) (hb1 : l1.length ≤ BIG) (hbr : ∀ r ∈ l0, r.length ≤ BIG) : ∃ k, customhouselaw19_LinearSolves.f k l0 l1 = some true := by
  apply Ev.rounds
  obtain ⟨fw, hf, hfw⟩ := few_ev l0 l1 hb0 hb1 hbr
  unfold customhouselaw19_LinearSolves.f customhouselaw19_head.f
  simp only [Option.bind_some]
  refine Ev.bind hf ?_
  cases fw
  · simp only [Bool.false_eq_true, if_false]; exact Ev.now true
  · obtain ⟨s0, s1, sr⟩ := hfw rfl
    simp only [if_true]
    rw [solve_f (by omega) (by omega) (fun j hj => by have := sr j hj; omega)]
    simp only [Option.bind_some]
    rcases lin_cases l0 l1 with h | h | h | ⟨hg, h⟩
    · rw [h]; exact Ev.now true
    · rw [h]; exact Ev.now true
    · rw [h]; exact Ev.now true
    · obtain ⟨g1, g2, g3⟩ := goodA_parts hg
      rcases linF_ok hg with h1 | h1 | ⟨_, hlen, hv, _, hsol⟩
      · rw [h1] at h; cases h
      · rw [h1.1] at h; cases h
      · have hl' : ((linF l0 l1).1.length : Int) = (l1.length : Int) := by omega
        simp only [h, hl', if_true]
        obtain ⟨res, ha, hres⟩ := applied_ev l0 (linF l0 l1).1 (by omega) (by rw [hlen]; exact hb1)
        refine Ev.bind ha ?_
        cases hr2 : res.2
        · simp only [Bool.false_eq_true, if_false]; exact Ev.now true
        · simp only [if_true]
          obtain ⟨rl, rr⟩ := hres hr2
          obtain ⟨b, hs, hb⟩ := same_ev res.1 l1 (by rw [rl, g1]; exact hb1)
          have : res.1 = l1 := list_ext (by omega) fun i hi => by
            obtain ⟨r1, r2, r3, r4⟩ := rr i (by omega)
            refine toQ_inj r2 (g2 i (by omega)) ?_
            rw [r3]
            have := hsol i (by omega)
            refine Eq.trans ?_ this
            unfold dot
            rw [hlen]
            exact sumN_congr fun j hj => by rw [sysQ_row (g3 i (by omega)).1 hj]
          rw [hb.2 this] at hs
          exact Ev.bind hs (Ev.now true)
theorem pure_only (l0 : List (List SR)) (l1 : List SR) (hb0 : l0.length ≤ BIG) (hb1 : l1.length ≤ BIG) (hbr : ∀ r ∈ l0, r.length ≤ BIG) : ∃ k, customhouselaw19_LinearOnly.f k l0 l1 = some true := by
  apply Ev.rounds
  obtain ⟨fw, hf, hfw⟩ := few_ev l0 l1 hb0 hb1 hbr
  unfold customhouselaw19_LinearOnly.f customhouselaw19_head.f
  simp only [Option.bind_some]
  have hj0 : Ev (fun k => customhouselaw19_LinearOnly.j0 k l0 l1 true true) true := Ev.step (f := fun _ => some true) (fun k => by simp only [customhouselaw19_LinearOnly.j0]; rfl) (Ev.now true)
  refine Ev.bind hf ?_
  cases fw
  · simp only [Bool.false_eq_true, if_false]; exact hj0
  · obtain ⟨s0, s1, sr⟩ := hfw rfl
    simp only [if_true]
    by_cases hl : l0.length = l1.length
    · have hne : ((l0.length : Int) != (l1.length : Int)) = false := by rw [hl]; simp
      rw [hne]
      obtain ⟨res, ha, hres⟩ := applied_ev l0 l1 (by omega) hb1
      refine Ev.step (f := fun k => (customhouselaw19_applied.f k l0 l1).bind fun bt => if bt.2 = true then customhouselaw19_LinearOnly.l0 k l0 l1 true bt.1 0 else some true) (fun k => by simp only [customhouselaw19_LinearOnly.j0]; rfl) ?_
      refine Ev.bind ha ?_
      cases hr2 : res.2
      · simp only [Bool.false_eq_true, if_false]; exact Ev.now true
      · simp only [if_true]
        obtain ⟨rl, rr⟩ := hres hr2
        have loop : ∀ d i, i + d = l1.length → (∀ t, t < i → vldS (rdS l1 t) = true) → Ev (fun k => customhouselaw19_LinearOnly.l0 k l0 l1 true res.1 (i : Nat)) true := by
          intro d
          induction d with
          | zero =>
            intro i hi hv
            obtain rfl : i = l1.length := by omega
            have hgood : goodA l0 res.1 = true := by
              unfold goodA
              rw [Bool.and_eq_true, Bool.and_eq_true, decide_eq_true_eq, List.all_eq_true, List.all_eq_true]
              refine ⟨by omega, fun s hs => ?_, fun r hs => ?_⟩
              · obtain ⟨t, ht, rfl⟩ := List.getElem_of_mem hs
                have := (rr t (by omega)).2.1
                unfold rdS at this
                rw [List.getD_eq_getElem?_getD, List.getElem?_eq_getElem ht] at this
                exact this
              · obtain ⟨t, ht, rfl⟩ := List.getElem_of_mem hs
                obtain ⟨q1, _, _, q4⟩ := rr t ht
                rw [List.getD_eq_getElem?_getD, List.getElem?_eq_getElem ht] at q1 q4
                simp only [Option.getD_some] at q1 q4
                rw [Bool.and_eq_true, decide_eq_true_eq, List.all_eq_true]
                refine ⟨by omega, fun s hs => ?_⟩
                obtain ⟨u, hu, rfl⟩ := List.getElem_of_mem hs
                have := (q4 u (by omega)).1
                unfold rdS at this
                rw [List.getD_eq_getElem?_getD, List.getElem?_eq_getElem hu] at this
                exact this
            have hsf := solve_f (l0 := l0) (l1 := res.1) (by omega) (by omega) (fun j hj => by have := sr j hj; omega)
            have hstep : ∀ k, customhouselaw19_LinearOnly.l0 (k + 1) l0 l1 true res.1 (l1.length : Nat) = (if (linF l0 res.1).2 = 12 then (some true) else (if (linF l0 res.1).2 = 2 then (some true) else (if (linF l0 res.1).2 = 0 then ((customhouseref19_Same.f k l1 (linF l0 res.1).1).bind fun t447 => (some t447)) else (some false)))) := fun k => by
              simp only [customhouselaw19_LinearOnly.l0]
              rw [if_neg (by omega), hsf, Option.bind_some]; rfl
            refine Ev.step hstep ?_
            rcases linF_ok hgood with h1 | h1 | ⟨h1, hlen, hvv, hreg, hsol⟩
            · rw [h1]; exact Ev.now true
            · rw [h1.1]; exact Ev.now true
            · simp only [h1]
              simp only [show ¬ ((0 : Int) = 12) by decide, show ¬ ((0 : Int) = 2) by decide, if_false, if_true]
              have heq : l1 = (linF l0 res.1).1 := list_ext (by omega) fun i hi => by
                refine toQ_inj (hv i hi) (hvv i (by omega)) ?_
                obtain ⟨y, hy, huniq⟩ := hreg (fun i => toQ (rdS res.1 i))
                have hself : Sol res.1.length (sysQ l0 res.1) (fun i => toQ (rdS res.1 i)) (fun i => toQ (rdS l1 i)) := fun t ht => by
                  obtain ⟨q1, _, q3, _⟩ := rr t (by omega)
                  dsimp only
                  rw [q3]
                  unfold dot
                  rw [show res.1.length = l1.length by omega]
                  exact sumN_congr fun j hj => by rw [sysQ_row (by omega) (by omega)]
                rw [huniq _ hself i (by omega), ← huniq _ hsol i (by omega)]
              obtain ⟨b, hs, hb⟩ := same_ev l1 (linF l0 res.1).1 hb1
              rw [hb.2 heq] at hs
              exact Ev.bind hs (Ev.now true)
          | succ d ih =>
            intro i hi hv
            have hw := wr1 (i := i) (n := l1.length) (by omega) hb1
            have hval : Ev (fun k => ratio_Valid.f k (rdS l1 i).f0 (rdS l1 i).f1 (rdS l1 i).f2) (vldS (rdS l1 i)) := Ev.step (f := fun _ => some (vldS (rdS l1 i))) (fun k => valid_val _ _ _ k) (Ev.now _)
            refine Ev.step (f := fun k => (ratio_Valid.f k (rdS l1 i).f0 (rdS l1 i).f1 (rdS l1 i).f2).bind fun t => if t = true then customhouselaw19_LinearOnly.l0 k l0 l1 true res.1 ((i + 1 : Nat) : Int) else some true) (fun k => ?_) ?_
            · simp only [customhouselaw19_LinearOnly.l0]
              rw [if_pos (by omega), if_pos (by omega), rdT, hw]
            · refine Ev.bind hval ?_
              cases hvi : vldS (rdS l1 i)
              · simp only [Bool.false_eq_true, if_false]; exact Ev.now true
              · simp only [if_true]
                exact ih (i + 1) (by omega) fun t ht => by
                  by_cases e : t = i
                  · subst e; exact hvi
                  · exact hv t (by omega)
        exact loop l1.length 0 (by omega) (fun t h => absurd h (by omega))
    · have hne : ((l0.length : Int) != (l1.length : Int)) = true := bne_iff_ne.2 (by omega)
      rw [hne]; exact hj0
end Go.Proofs.YtmkanjcehhbmlaaGreatDoor.Pr
end
