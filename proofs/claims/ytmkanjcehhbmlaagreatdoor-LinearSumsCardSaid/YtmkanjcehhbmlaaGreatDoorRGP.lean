/- What the printed loops of the laws answer: Few, Same, applied. What applied answers: the sums of products, exactly, or false. LinearSolves and LinearOnly, as printed, answer true for all numbers. -/
import Derived.Test.YtmkanjcehhbmlaaGreatDoorRBuild
import Derived.Test.YtmkanjcehhbmlaaGreatDoorRFmt
import Derived.Test.YtmkanjcehhbmlaaGreatDoorRGL1
import Derived.Test.YtmkanjcehhbmlaaGreatDoorRGL2
import Derived.Test.YtmkanjcehhbmlaaGreatDoorRGN
import Derived.Test.YtmkanjcehhbmlaaGreatDoorRGN2
import Derived.Test.YtmkanjcehhbmlaaGreatDoorRGN3
import Derived.Test.YtmkanjcehhbmlaaGreatDoorRGRR
import Derived.Test.YtmkanjcehhbmlaaGreatDoorRGW
import Derived.Test.YtmkanjcehhbmlaaGreatDoorRGW2
import Derived.Test.YtmkanjcehhbmlaaGreatDoorRHead19
import Derived.Test.YtmkanjcehhbmlaaGreatDoorRLinQ
import Derived.Test.YtmkanjcehhbmlaaGreatDoorRLinS
import Derived.Test.YtmkanjcehhbmlaaGreatDoorRNatApply
import Derived.Test.YtmkanjcehhbmlaaGreatDoorRNatS
import Derived.Test.YtmkanjcehhbmlaaGreatDoorRNum
import Derived.Test.YtmkanjcehhbmlaaGreatDoorRNumAdd
import Derived.Test.YtmkanjcehhbmlaaGreatDoorRNumCmp
import Derived.Test.YtmkanjcehhbmlaaGreatDoorRNumDiv
import Derived.Test.YtmkanjcehhbmlaaGreatDoorRNumIs
import Derived.Test.YtmkanjcehhbmlaaGreatDoorRNumMul
import Derived.Test.YtmkanjcehhbmlaaGreatDoorRNumOps
import Derived.Test.YtmkanjcehhbmlaaGreatDoorRNumParse
import Derived.Test.YtmkanjcehhbmlaaGreatDoorRNumText
import Derived.Test.YtmkanjcehhbmlaaGreatDoorRNumVal
import Derived.Test.YtmkanjcehhbmlaaGreatDoorRPrA1
import Derived.Test.YtmkanjcehhbmlaaGreatDoorRPrA11
import Derived.Test.YtmkanjcehhbmlaaGreatDoorRPrA3
import Derived.Test.YtmkanjcehhbmlaaGreatDoorRPrA4
import Derived.Test.YtmkanjcehhbmlaaGreatDoorRPrA5
import Derived.Test.YtmkanjcehhbmlaaGreatDoorRPrA6
import Derived.Test.YtmkanjcehhbmlaaGreatDoorRPrB1
import Derived.Test.YtmkanjcehhbmlaaGreatDoorRPrB2
import Derived.Test.YtmkanjcehhbmlaaGreatDoorRPrC1
import Derived.Test.YtmkanjcehhbmlaaGreatDoorRRatOf
import Derived.Test.YtmkanjcehhbmlaaGreatDoorRRatOps
import Derived.Test.YtmkanjcehhbmlaaGreatDoorRRatProd
import Derived.Test.YtmkanjcehhbmlaaGreatDoorRRatS
import Derived.Test.YtmkanjcehhbmlaaGreatDoorRRatSub1
import Derived.Test.YtmkanjcehhbmlaaGreatDoorRRatSum
import Derived.Test.YtmkanjcehhbmlaaGreatDoorRRatVal
import Derived.Test.YtmkanjcehhbmlaaGreatDoorRRatWrap
import Derived.Test.YtmkanjcehhbmlaaGreatDoorRRegInv
import Derived.Test.YtmkanjcehhbmlaaGreatDoorRShelf
import Derived.Test.YtmkanjcehhbmlaaGreatDoorRSpec
import Derived.Test.YtmkanjcehhbmlaaGreatDoorRTab
import Derived.Test.YtmkanjcehhbmlaaGreatDoorRWLast
set_option linter.all false
section
namespace Go.Proofs.YtmkanjcehhbmlaaGreatDoor.Pr
set_option linter.unusedSimpArgs false
set_option linter.unusedVariables false
open Go.RowKit Go.Proofs.YtmkanjcehhbmlaaGreatDoorW.PrintWords Ga
theorem wr1 {i n : Nat} (h : i < n) (hn : n ≤ 9223372036854775807) : wrap64 ((i : Int) + 1) = ((i + 1 : Nat) : Int) := by unfold wrap64; omega
theorem rdT (xs : List SR) (j : Nat) : rd_T31 xs (j : Int) = rdS xs j := rfl
abbrev BIG : Nat := 9223372036854775807
theorem same_l0 (a b : List SR) (hl : a.length = b.length) (hb : a.length ≤ BIG) : ∀ d i, i + d = a.length → ∃ r : Bool, Ev (fun k => customhouseref19_Same.l0 k a b (i : Nat)) r ∧ (r = true ↔ a.drop i = b.drop i)
  | 0, i, h => by
    refine ⟨true, Ev.step (f := fun _ => some true) (fun k => by simp only [customhouseref19_Same.l0]; rw [if_neg (by omega)]) (Ev.now true), ?_⟩
    have : a.drop i = b.drop i := by rw [List.drop_eq_nil_of_le (by omega), List.drop_eq_nil_of_le (by omega)]
    simp [this]
  | d + 1, i, h => by
    have ea : a.drop i = rdS a i :: a.drop (i + 1) := by
      unfold rdS; rw [List.getD_eq_getElem?_getD, List.getElem?_eq_getElem (by omega)]; exact List.drop_eq_getElem_cons (by omega)
    have eb : b.drop i = rdS b i :: b.drop (i + 1) := by
      unfold rdS; rw [List.getD_eq_getElem?_getD, List.getElem?_eq_getElem (by omega)]; exact List.drop_eq_getElem_cons (by omega)
    have hw := wr1 (i := i) (n := a.length) (by omega) hb
    have tl : ∀ x y : ByteArray, x.toList = y.toList → x = y := fun x y h => by
      have := congrArg List.toArray h
      rw [Lib.toList_data, Lib.toList_data] at this
      cases x; cases y; simpa using this
    rcases Classical.em (rdS a i = rdS b i) with e | e
    · obtain ⟨r, h1, h2⟩ := same_l0 a b hl hb d (i + 1) (by omega)
      refine ⟨r, Ev.step (fun k => ?_) h1, h2.trans (by rw [ea, eb, e]; simp)⟩
      simp only [customhouseref19_Same.l0]
      rw [if_pos (by omega), if_pos (by omega), if_pos (by omega), rdT, rdT, e, if_neg (by simp), hw]
    · refine ⟨false, Ev.step (f := fun _ => some false) (fun k => ?_) (Ev.now false), by simp only [Bool.false_eq_true, false_iff]; rw [ea, eb]; intro h; injection h with h1 _; exact e h1⟩
      simp only [customhouseref19_Same.l0]
      rw [if_pos (by omega), if_pos (by omega), if_pos (by omega), rdT, rdT, if_pos]
      rcases Classical.em ((rdS a i).f0 = (rdS b i).f0) with h0 | h0
      · rcases Classical.em ((rdS a i).f1.toList = (rdS b i).f1.toList) with h1 | h1
        · have h2 : ¬ (rdS a i).f2.toList = (rdS b i).f2.toList := fun h2 => e (by
            have g1 := tl _ _ h1; have g2 := tl _ _ h2
            cases ha : rdS a i; cases hb' : rdS b i; rw [ha, hb'] at h0 g1 g2; simp only at h0 g1 g2; rw [h0, g1, g2])
          simp [h2]
        · simp [h1]
      · simp [h0]
theorem same_ev (a b : List SR) (hb : a.length ≤ BIG) : ∃ r : Bool, Ev (fun k => customhouseref19_Same.f k a b) r ∧ (r = true ↔ a = b) := by
  by_cases hl : a.length = b.length
  · obtain ⟨r, h1, h2⟩ := same_l0 a b hl hb a.length 0 (by omega)
    refine ⟨r, Ev.congr (fun k => ?_) h1, by simpa using h2⟩
    unfold customhouseref19_Same.f
    rw [if_pos (by omega)]; rfl
  · refine ⟨false, Ev.congr (fun k => ?_) (Ev.now false), by simp; intro h; exact hl (by rw [h])⟩
    unfold customhouseref19_Same.f
    rw [if_neg (by omega)]
theorem few_l2 (x0 : List (List SR)) (x1 : List SR) (hb : x1.length ≤ BIG) : ∀ d x5 i, i + d = x1.length → ∃ r, Ev (fun k => customhouseref19_Few.l2 k x0 x1 x5 (i : Nat)) r ∧ (r = true → x0.length ≤ 12 ∧ x1.length ≤ 12)
  | 0, x5, i, h => by
    refine ⟨_, Ev.step (f := fun _ => some (if (x0.length : Int) ≤ 12 then (if (x1.length : Int) ≤ 12 then (if (x0.length : Int) < (x1.length : Int) then (if (x1.length : Int) < 1 then (decide ((wrap64 (1 * x5)) ≤ 48)) else (decide ((wrap64 ((x1.length : Int) * x5)) ≤ 48))) else (if (x0.length : Int) < 1 then (decide ((wrap64 (1 * x5)) ≤ 48)) else (decide ((wrap64 ((x0.length : Int) * x5)) ≤ 48)))) else false) else false)) (fun k => ?_) (Ev.now _), fun hr => ?_⟩
    · simp only [customhouseref19_Few.l2]
      rw [if_neg (by omega)]
      repeat' split
      all_goals rfl
    · by_cases h1 : (x0.length : Int) ≤ 12
      · rw [if_pos h1] at hr
        by_cases h2 : (x1.length : Int) ≤ 12
        · omega
        · rw [if_neg h2] at hr; cases hr
      · rw [if_neg h1] at hr; cases hr
  | d + 1, x5, i, h => by
    have hw := wr1 (i := i) (n := x1.length) (by omega) hb
    obtain ⟨y, hy⟩ : ∃ y, ∀ k, customhouseref19_Few.l2 (k + 1) x0 x1 x5 (i : Nat) = customhouseref19_Few.l2 k x0 x1 y ((i + 1 : Nat) : Int) := by
      refine ⟨if x5 < (((rdS x1 i).f1).size : Int) then (if (((rdS x1 i).f1).size : Int) < (((rdS x1 i).f2).size : Int) then (((rdS x1 i).f2).size : Int) else (((rdS x1 i).f1).size : Int)) else (if x5 < (((rdS x1 i).f2).size : Int) then (((rdS x1 i).f2).size : Int) else x5), fun k => ?_⟩
      simp only [customhouseref19_Few.l2]
      rw [if_pos (by omega), if_pos (by omega), rdT, hw]
      repeat' split
      all_goals rfl
    obtain ⟨r, h1, h2⟩ := few_l2 x0 x1 hb d y (i + 1) (by omega)
    exact ⟨r, Ev.step hy h1, h2⟩
mutual
theorem few_l0 (x0 : List (List SR)) (x1 : List SR) (hb0 : x0.length ≤ BIG) (hb1 : x1.length ≤ BIG) (hbr : ∀ r ∈ x0, r.length ≤ BIG) : ∀ d x5 i, i + d = x0.length → (∀ j, j < i → (x0.getD j []).length ≤ 12) → ∃ r, Ev (fun k => customhouseref19_Few.l0 k x0 x1 x5 (i : Nat)) r ∧ (r = true → x0.length ≤ 12 ∧ x1.length ≤ 12 ∧ ∀ j, j < x0.length → (x0.getD j []).length ≤ 12)
  | 0, x5, i, h, hj => by
    obtain ⟨r, h1, h2⟩ := few_l2 x0 x1 hb1 x1.length x5 0 (by omega)
    refine ⟨r, Ev.step (fun k => ?_) h1, fun hr => ⟨(h2 hr).1, (h2 hr).2, fun j hjl => hj j (by omega)⟩⟩
    simp only [customhouseref19_Few.l0]
    rw [if_neg (by omega)]; rfl
  | d + 1, x5, i, h, hj => by
    by_cases hlen : (x0.getD i []).length ≤ 12
    · obtain ⟨r, h1, h2⟩ := few_l1 x0 x1 hb0 hb1 hbr d x5 i (by omega) hj hlen (x0.getD i []).length 0 (by omega)
      refine ⟨r, Ev.step (fun k => ?_) h1, h2⟩
      simp only [customhouseref19_Few.l0]
      rw [if_pos (by omega), if_pos (by omega), if_neg (show ¬ ((rd_L3 x0 (i : Nat)).length : Int) > 12 from by show ¬ ((x0.getD i []).length : Int) > 12; omega)]; rfl
    · refine ⟨false, Ev.step (f := fun _ => some false) (fun k => ?_) (Ev.now false), fun h => by cases h⟩
      simp only [customhouseref19_Few.l0]
      rw [if_pos (by omega), if_pos (by omega), if_pos (show ((rd_L3 x0 (i : Nat)).length : Int) > 12 from by show ((x0.getD i []).length : Int) > 12; omega)]
  termination_by d _ i => (d, 0, 0)
theorem few_l1 (x0 : List (List SR)) (x1 : List SR) (hb0 : x0.length ≤ BIG) (hb1 : x1.length ≤ BIG) (hbr : ∀ r ∈ x0, r.length ≤ BIG) : ∀ d x5 i, i + 1 + d = x0.length → (∀ j, j < i → (x0.getD j []).length ≤ 12) → (x0.getD i []).length ≤ 12 → ∀ e j, j + e = (x0.getD i []).length → ∃ r, Ev (fun k => customhouseref19_Few.l1 k x0 x1 x5 (i : Nat) (j : Nat)) r ∧ (r = true → x0.length ≤ 12 ∧ x1.length ≤ 12 ∧ ∀ j, j < x0.length → (x0.getD j []).length ≤ 12)
  | d, x5, i, h, hj, hlen, 0, j, he => by
    have hw := wr1 (i := i) (n := x0.length) (by omega) hb0
    obtain ⟨r, h1, h2⟩ := few_l0 x0 x1 hb0 hb1 hbr d x5 (i + 1) (by omega) (fun j' hj' => by
      by_cases e : j' = i
      · subst e; exact hlen
      · exact hj j' (by omega))
    refine ⟨r, Ev.step (fun k => ?_) h1, h2⟩
    simp only [customhouseref19_Few.l1]
    rw [if_pos (by omega), if_pos (by omega), if_neg (show ¬ ((j : Nat) : Int) < ((rd_L3 x0 (i : Nat)).length : Int) from by show ¬ ((j : Nat) : Int) < ((x0.getD i []).length : Int); omega), hw]
  | d, x5, i, h, hj, hlen, e + 1, j, he => by
    have hw := wr1 (i := j) (n := (x0.getD i []).length) (by omega) (by omega)
    obtain ⟨y, hy⟩ : ∃ y, ∀ k, customhouseref19_Few.l1 (k + 1) x0 x1 x5 (i : Nat) (j : Nat) = customhouseref19_Few.l1 k x0 x1 y (i : Nat) ((j + 1 : Nat) : Int) := by
      refine ⟨if x5 < (((rdS (x0.getD i []) j).f1).size : Int) then (if (((rdS (x0.getD i []) j).f1).size : Int) < (((rdS (x0.getD i []) j).f2).size : Int) then (((rdS (x0.getD i []) j).f2).size : Int) else (((rdS (x0.getD i []) j).f1).size : Int)) else (if x5 < (((rdS (x0.getD i []) j).f2).size : Int) then (((rdS (x0.getD i []) j).f2).size : Int) else x5), fun k => ?_⟩
      simp only [customhouseref19_Few.l1]
      rw [if_pos (by omega), if_pos (by omega), if_pos (show ((j : Nat) : Int) < ((rd_L3 x0 (i : Nat)).length : Int) from by show ((j : Nat) : Int) < ((x0.getD i []).length : Int); omega), if_pos (by omega), rdT, show rd_L3 x0 (i : Nat) = x0.getD i [] from rfl, hw]
      repeat' split
      all_goals rfl
    obtain ⟨r, h1, h2⟩ := few_l1 x0 x1 hb0 hb1 hbr d y i h hj hlen e (j + 1) (by omega)
    exact ⟨r, Ev.step hy h1, h2⟩
  termination_by d _ i _ _ _ e j => (d, 1, e)
end
theorem few_ev (x0 : List (List SR)) (x1 : List SR) (hb0 : x0.length ≤ BIG) (hb1 : x1.length ≤ BIG) (hbr : ∀ r ∈ x0, r.length ≤ BIG) : ∃ r, Ev (fun k => customhouseref19_Few.f k x0 x1) r ∧ (r = true → x0.length ≤ 12 ∧ x1.length ≤ 12 ∧ ∀ j, j < x0.length → (x0.getD j []).length ≤ 12) :=
  few_l0 x0 x1 hb0 hb1 hbr x0.length 1 0 (by omega) (fun j h => absurd h (by omega))
end Go.Proofs.YtmkanjcehhbmlaaGreatDoor.Pr
end

section
namespace Go.Proofs.YtmkanjcehhbmlaaGreatDoor.Pr
set_option linter.unusedSimpArgs false
set_option linter.unusedVariables false
open Go.RowKit Go.Proofs.YtmkanjcehhbmlaaGreatDoorW.PrintWords Ga
theorem ok_use {r : SR × Int} {q : Rat} (h : Ok r q) (h0 : r.2 = 0) : vldS r.1 = true ∧ toQ r.1 = q := by
  rcases h with ⟨_, h1, h2⟩ | h
  · exact ⟨h1, h2⟩
  · rw [h] at h0; cases h0
theorem rdS_app (xs : List SR) (s : SR) (t : Nat) : rdS (xs ++ [s]) t = if t < xs.length then rdS xs t else if t = xs.length then s else rdS [] t := by
  unfold rdS
  rw [List.getD_eq_getElem?_getD]
  by_cases h : t < xs.length
  · rw [if_pos h, List.getElem?_append_left h, List.getD_eq_getElem?_getD]
  · rw [if_neg h, List.getElem?_append_right (by omega)]
    by_cases e : t = xs.length
    · rw [if_pos e, e, Nat.sub_self]; rfl
    · rw [if_neg e, List.getElem?_eq_none (by simp; omega)]; rfl
theorem list_ext {a b : List SR} (hl : a.length = b.length) (h : ∀ i, i < a.length → rdS a i = rdS b i) : a = b := by
  apply List.ext_getElem hl
  intro i h1 h2
  have := h i h1
  unfold rdS at this
  rw [List.getD_eq_getElem?_getD, List.getD_eq_getElem?_getD, List.getElem?_eq_getElem h1, List.getElem?_eq_getElem h2] at this
  exact this
end Go.Proofs.YtmkanjcehhbmlaaGreatDoor.Pr
end

section
namespace Go.Proofs.YtmkanjcehhbmlaaGreatDoor.Pr
set_option linter.unusedSimpArgs false
set_option linter.unusedVariables false
open Go.RowKit Go.Proofs.YtmkanjcehhbmlaaGreatDoorW.PrintWords Ga
theorem solve_f {l0 : List (List SR)} {l1 : List SR} (h0 : l0.length ≤ 1000) (h1 : l1.length ≤ 1000) (hr : ∀ j, j < l0.length → (l0.getD j []).length ≤ 1000) : linear_Solve.f l0 l1 = some (linF l0 l1) := by
  unfold linear_Solve.f
  rw [if_pos ⟨by omega, by omega, fun r hm => by
    obtain ⟨j, hj, rfl⟩ := List.getElem_of_mem hm
    have := hr j hj
    rw [List.getD_eq_getElem?_getD, List.getElem?_eq_getElem hj] at this
    simpa using Nat.le_trans this (by omega : 1000 ≤ 100000)⟩]
/-- The system's rows as numbers. -/
theorem sysQ_row {l0 : List (List SR)} {l1 : List SR} {i j : Nat} (hl : (l0.getD i []).length = l1.length) (hj : j < l1.length) : sysQ l0 l1 i j = toQ (rdS (l0.getD i []) j) := by
  unfold sysQ qM
  rw [sysM_rd hl (by omega), if_neg (by omega)]
end Go.Proofs.YtmkanjcehhbmlaaGreatDoor.Pr
end
