/- What the printed loops of the laws answer: Few, Same, applied. What applied answers: the sums of products, exactly, or false. LinearSolves and LinearOnly, as printed, answer true for all numbers. LinearSums, as printed, answers true for all numbers. Changed systems: what linear.Solve answers for equations in another order, dependent ones, and multiples; plain. -/
import Derived.Test.YtmkanjcehhbmlaaGreatDoorDBuild
import Derived.Test.YtmkanjcehhbmlaaGreatDoorDFmt
import Derived.Test.YtmkanjcehhbmlaaGreatDoorDGL1
import Derived.Test.YtmkanjcehhbmlaaGreatDoorDGL2
import Derived.Test.YtmkanjcehhbmlaaGreatDoorDGN
import Derived.Test.YtmkanjcehhbmlaaGreatDoorDGN2
import Derived.Test.YtmkanjcehhbmlaaGreatDoorDGN3
import Derived.Test.YtmkanjcehhbmlaaGreatDoorDGRR
import Derived.Test.YtmkanjcehhbmlaaGreatDoorDGRS
import Derived.Test.YtmkanjcehhbmlaaGreatDoorDGW
import Derived.Test.YtmkanjcehhbmlaaGreatDoorDGW2
import Derived.Test.YtmkanjcehhbmlaaGreatDoorDHead19
import Derived.Test.YtmkanjcehhbmlaaGreatDoorDLinQ
import Derived.Test.YtmkanjcehhbmlaaGreatDoorDLinS
import Derived.Test.YtmkanjcehhbmlaaGreatDoorDNatApply
import Derived.Test.YtmkanjcehhbmlaaGreatDoorDNatS
import Derived.Test.YtmkanjcehhbmlaaGreatDoorDNum
import Derived.Test.YtmkanjcehhbmlaaGreatDoorDNumAdd
import Derived.Test.YtmkanjcehhbmlaaGreatDoorDNumCmp
import Derived.Test.YtmkanjcehhbmlaaGreatDoorDNumDiv
import Derived.Test.YtmkanjcehhbmlaaGreatDoorDNumIs
import Derived.Test.YtmkanjcehhbmlaaGreatDoorDNumMul
import Derived.Test.YtmkanjcehhbmlaaGreatDoorDNumOps
import Derived.Test.YtmkanjcehhbmlaaGreatDoorDNumParse
import Derived.Test.YtmkanjcehhbmlaaGreatDoorDNumText
import Derived.Test.YtmkanjcehhbmlaaGreatDoorDNumVal
import Derived.Test.YtmkanjcehhbmlaaGreatDoorDPrA1
import Derived.Test.YtmkanjcehhbmlaaGreatDoorDPrA10
import Derived.Test.YtmkanjcehhbmlaaGreatDoorDPrA11
import Derived.Test.YtmkanjcehhbmlaaGreatDoorDPrA3
import Derived.Test.YtmkanjcehhbmlaaGreatDoorDPrA4
import Derived.Test.YtmkanjcehhbmlaaGreatDoorDPrA5
import Derived.Test.YtmkanjcehhbmlaaGreatDoorDPrA6
import Derived.Test.YtmkanjcehhbmlaaGreatDoorDPrB1
import Derived.Test.YtmkanjcehhbmlaaGreatDoorDPrB2
import Derived.Test.YtmkanjcehhbmlaaGreatDoorDPrB3
import Derived.Test.YtmkanjcehhbmlaaGreatDoorDPrC1
import Derived.Test.YtmkanjcehhbmlaaGreatDoorDRatOps
import Derived.Test.YtmkanjcehhbmlaaGreatDoorDRatProd
import Derived.Test.YtmkanjcehhbmlaaGreatDoorDRatSum
import Derived.Test.YtmkanjcehhbmlaaGreatDoorDRatVal
import Derived.Test.YtmkanjcehhbmlaaGreatDoorDRegInv
import Derived.Test.YtmkanjcehhbmlaaGreatDoorDShelf
import Derived.Test.YtmkanjcehhbmlaaGreatDoorDSpec
import Derived.Test.YtmkanjcehhbmlaaGreatDoorDTab
import Derived.Test.YtmkanjcehhbmlaaGreatDoorDWLast
set_option linter.all false
section
namespace Go.Proofs.YtmkanjcehhbmlaaGreatDoor.Pr
set_option linter.unusedSimpArgs false
set_option linter.unusedVariables false
open Go.RowKit Go.Proofs.YtmkanjcehhbmlaaGreatDoorW.PrintWords Ga
theorem wr1 {i n : Nat} (h : i < n) (hn : n ≤ 9223372036854775807) : wrap64 ((i : Int) + 1) = ((i + 1 : Nat) : Int) := by unfold wrap64; omega
theorem rdT (xs : List SR) (j : Nat) : rd_T31 xs (j : Int) = rdS xs j := rfl
abbrev BIG : Nat := 9223372036854775807
theorem same_l0 (a b : List SR) (hl : a.length = b.length) (hb : a.length ≤ BIG) : ∀ d i, i + d = a.length → ∃ r : Bool, Ev (fun k => customhouseref19_Same.l0 k a b (i : Nat)) r ∧ (r = true ↔ a.drop i = b.drop i)
  | 0, i, h => by
    refine ⟨true, Ev.step (f := fun _ => some true) (fun k => by simp only [customhouseref19_Same.l0]; rw [if_neg (by omega)]) (Ev.now true), ?_⟩
    have : a.drop i = b.drop i := by rw [List.drop_eq_nil_of_le (by omega), List.drop_eq_nil_of_le (by omega)]
    simp [this]
  | d + 1, i, h => by
    have ea : a.drop i = rdS a i :: a.drop (i + 1) := by
      unfold rdS; rw [List.getD_eq_getElem?_getD, List.getElem?_eq_getElem (by omega)]; exact List.drop_eq_getElem_cons (by omega)
    have eb : b.drop i = rdS b i :: b.drop (i + 1) := by
      unfold rdS; rw [List.getD_eq_getElem?_getD, List.getElem?_eq_getElem (by omega)]; exact List.drop_eq_getElem_cons (by omega)
    have hw := wr1 (i := i) (n := a.length) (by omega) hb
    have tl : ∀ x y : ByteArray, x.toList = y.toList → x = y := fun x y h => by
      have := congrArg List.toArray h
      rw [Lib.toList_data, Lib.toList_data] at this
      cases x; cases y; simpa using this
    rcases Classical.em (rdS a i = rdS b i) with e | e
    · obtain ⟨r, h1, h2⟩ := same_l0 a b hl hb d (i + 1) (by omega)
      refine ⟨r, Ev.step (fun k => ?_) h1, h2.trans (by rw [ea, eb, e]; simp)⟩
      simp only [customhouseref19_Same.l0]
      rw [if_pos (by omega), if_pos (by omega), if_pos (by omega), rdT, rdT, e, if_neg (by simp), hw]
    · refine ⟨false, Ev.step (f := fun _ => some false) (fun k => ?_) (Ev.now false), by simp only [Bool.false_eq_true, false_iff]; rw [ea, eb]; intro h; injection h with h1 _; exact e h1⟩
      simp only [customhouseref19_Same.l0]
      rw [if_pos (by omega), if_pos (by omega), if_pos (by omega), rdT, rdT, if_pos]
      rcases Classical.em ((rdS a i).f0 = (rdS b i).f0) with h0 | h0
      · rcases Classical.em ((rdS a i).f1.toList = (rdS b i).f1.toList) with h1 | h1
        · have h2 : ¬ (rdS a i).f2.toList = (rdS b i).f2.toList := fun h2 => e (by
            have g1 := tl _ _ h1; have g2 := tl _ _ h2
            cases ha : rdS a i; cases hb' : rdS b i; rw [ha, hb'] at h0 g1 g2; simp only at h0 g1 g2; rw [h0, g1, g2])
          simp [h2]
        · simp [h1]
      · simp [h0]
theorem same_ev (a b : List SR) (hb : a.length ≤ BIG) : ∃ r : Bool, Ev (fun k => customhouseref19_Same.f k a b) r ∧ (r = true ↔ a = b) := by
  by_cases hl : a.length = b.length
  · obtain ⟨r, h1, h2⟩ := same_l0 a b hl hb a.length 0 (by omega)
    refine ⟨r, Ev.congr (fun k => ?_) h1, by simpa using h2⟩
    unfold customhouseref19_Same.f
    rw [if_pos (by omega)]; rfl
  · refine ⟨false, Ev.congr (fun k => ?_) (Ev.now false), by simp; intro h; exact hl (by rw [h])⟩
    unfold customhouseref19_Same.f
    rw [if_neg (by omega)]
theorem few_l2 (x0 : List (List SR)) (x1 : List SR) (hb : x1.length ≤ BIG) : ∀ d x5 i, i + d = x1.length → ∃ r, Ev (fun k => customhouseref19_Few.l2 k x0 x1 x5 (i : Nat)) r ∧ (r = true → x0.length ≤ 12 ∧ x1.length ≤ 12)
  | 0, x5, i, h => by
    refine ⟨_, Ev.step (f := fun _ => some (if (x0.length : Int) ≤ 12 then (if (x1.length : Int) ≤ 12 then (if (x0.length : Int) < (x1.length : Int) then (if (x1.length : Int) < 1 then (decide ((wrap64 (1 * x5)) ≤ 48)) else (decide ((wrap64 ((x1.length : Int) * x5)) ≤ 48))) else (if (x0.length : Int) < 1 then (decide ((wrap64 (1 * x5)) ≤ 48)) else (decide ((wrap64 ((x0.length : Int) * x5)) ≤ 48)))) else false) else false)) (fun k => ?_) (Ev.now _), fun hr => ?_⟩
    · simp only [customhouseref19_Few.l2]
      rw [if_neg (by omega)]
      repeat' split
      all_goals rfl
    · by_cases h1 : (x0.length : Int) ≤ 12
      · rw [if_pos h1] at hr
        by_cases h2 : (x1.length : Int) ≤ 12
        · omega
        · rw [if_neg h2] at hr; cases hr
      · rw [if_neg h1] at hr; cases hr
  | d + 1, x5, i, h => by
    have hw := wr1 (i := i) (n := x1.length) (by omega) hb
    obtain ⟨y, hy⟩ : ∃ y, ∀ k, customhouseref19_Few.l2 (k + 1) x0 x1 x5 (i : Nat) = customhouseref19_Few.l2 k x0 x1 y ((i + 1 : Nat) : Int) := by
      refine ⟨if x5 < (((rdS x1 i).f1).size : Int) then (if (((rdS x1 i).f1).size : Int) < (((rdS x1 i).f2).size : Int) then (((rdS x1 i).f2).size : Int) else (((rdS x1 i).f1).size : Int)) else (if x5 < (((rdS x1 i).f2).size : Int) then (((rdS x1 i).f2).size : Int) else x5), fun k => ?_⟩
      simp only [customhouseref19_Few.l2]
      rw [if_pos (by omega), if_pos (by omega), rdT, hw]
      repeat' split
      all_goals rfl
    obtain ⟨r, h1, h2⟩ := few_l2 x0 x1 hb d y (i + 1) (by omega)
    exact ⟨r, Ev.step hy h1, h2⟩
mutual
theorem few_l0 (x0 : List (List SR)) (x1 : List SR) (hb0 : x0.length ≤ BIG) (hb1 : x1.length ≤ BIG) (hbr : ∀ r ∈ x0, r.length ≤ BIG) : ∀ d x5 i, i + d = x0.length → (∀ j, j < i → (x0.getD j []).length ≤ 12) → ∃ r, Ev (fun k => customhouseref19_Few.l0 k x0 x1 x5 (i : Nat)) r ∧ (r = true → x0.length ≤ 12 ∧ x1.length ≤ 12 ∧ ∀ j, j < x0.length → (x0.getD j []).length ≤ 12)
  | 0, x5, i, h, hj => by
    obtain ⟨r, h1, h2⟩ := few_l2 x0 x1 hb1 x1.length x5 0 (by omega)
    refine ⟨r, Ev.step (fun k => ?_) h1, fun hr => ⟨(h2 hr).1, (h2 hr).2, fun j hjl => hj j (by omega)⟩⟩
    simp only [customhouseref19_Few.l0]
    rw [if_neg (by omega)]; rfl
  | d + 1, x5, i, h, hj => by
    by_cases hlen : (x0.getD i []).length ≤ 12
    · obtain ⟨r, h1, h2⟩ := few_l1 x0 x1 hb0 hb1 hbr d x5 i (by omega) hj hlen (x0.getD i []).length 0 (by omega)
      refine ⟨r, Ev.step (fun k => ?_) h1, h2⟩
      simp only [customhouseref19_Few.l0]
      rw [if_pos (by omega), if_pos (by omega), if_neg (show ¬ ((rd_L3 x0 (i : Nat)).length : Int) > 12 from by show ¬ ((x0.getD i []).length : Int) > 12; omega)]; rfl
    · refine ⟨false, Ev.step (f := fun _ => some false) (fun k => ?_) (Ev.now false), fun h => by cases h⟩
      simp only [customhouseref19_Few.l0]
      rw [if_pos (by omega), if_pos (by omega), if_pos (show ((rd_L3 x0 (i : Nat)).length : Int) > 12 from by show ((x0.getD i []).length : Int) > 12; omega)]
  termination_by d _ i => (d, 0, 0)
theorem few_l1 (x0 : List (List SR)) (x1 : List SR) (hb0 : x0.length ≤ BIG) (hb1 : x1.length ≤ BIG) (hbr : ∀ r ∈ x0, r.length ≤ BIG) : ∀ d x5 i, i + 1 + d = x0.length → (∀ j, j < i → (x0.getD j []).length ≤ 12) → (x0.getD i []).length ≤ 12 → ∀ e j, j + e = (x0.getD i []).length → ∃ r, Ev (fun k => customhouseref19_Few.l1 k x0 x1 x5 (i : Nat) (j : Nat)) r ∧ (r = true → x0.length ≤ 12 ∧ x1.length ≤ 12 ∧ ∀ j, j < x0.length → (x0.getD j []).length ≤ 12)
  | d, x5, i, h, hj, hlen, 0, j, he => by
    have hw := wr1 (i := i) (n := x0.length) (by omega) hb0
    obtain ⟨r, h1, h2⟩ := few_l0 x0 x1 hb0 hb1 hbr d x5 (i + 1) (by omega) (fun j' hj' => by
      by_cases e : j' = i
      · subst e; exact hlen
      · exact hj j' (by omega))
    refine ⟨r, Ev.step (fun k => ?_) h1, h2⟩
    simp only [customhouseref19_Few.l1]
    rw [if_pos (by omega), if_pos (by omega), if_neg (show ¬ ((j : Nat) : Int) < ((rd_L3 x0 (i : Nat)).length : Int) from by show ¬ ((j : Nat) : Int) < ((x0.getD i []).length : Int); omega), hw]
  | d, x5, i, h, hj, hlen, e + 1, j, he => by
    have hw := wr1 (i := j) (n := (x0.getD i []).length) (by omega) (by omega)
    obtain ⟨y, hy⟩ : ∃ y, ∀ k, customhouseref19_Few.l1 (k + 1) x0 x1 x5 (i : Nat) (j : Nat) = customhouseref19_Few.l1 k x0 x1 y (i : Nat) ((j + 1 : Nat) : Int) := by
      refine ⟨if x5 < (((rdS (x0.getD i []) j).f1).size : Int) then (if (((rdS (x0.getD i []) j).f1).size : Int) < (((rdS (x0.getD i []) j).f2).size : Int) then (((rdS (x0.getD i []) j).f2).size : Int) else (((rdS (x0.getD i []) j).f1).size : Int)) else (if x5 < (((rdS (x0.getD i []) j).f2).size : Int) then (((rdS (x0.getD i []) j).f2).size : Int) else x5), fun k => ?_⟩
      simp only [customhouseref19_Few.l1]
      rw [if_pos (by omega), if_pos (by omega), if_pos (show ((j : Nat) : Int) < ((rd_L3 x0 (i : Nat)).length : Int) from by show ((j : Nat) : Int) < ((x0.getD i []).length : Int); omega), if_pos (by omega), rdT, show rd_L3 x0 (i : Nat) = x0.getD i [] from rfl, hw]
      repeat' split
      all_goals rfl
    obtain ⟨r, h1, h2⟩ := few_l1 x0 x1 hb0 hb1 hbr d y i h hj hlen e (j + 1) (by omega)
    exact ⟨r, Ev.step hy h1, h2⟩
  termination_by d _ i _ _ _ e j => (d, 1, e)
end
theorem few_ev (x0 : List (List SR)) (x1 : List SR) (hb0 : x0.length ≤ BIG) (hb1 : x1.length ≤ BIG) (hbr : ∀ r ∈ x0, r.length ≤ BIG) : ∃ r, Ev (fun k => customhouseref19_Few.f k x0 x1) r ∧ (r = true → x0.length ≤ 12 ∧ x1.length ≤ 12 ∧ ∀ j, j < x0.length → (x0.getD j []).length ≤ 12) :=
  few_l0 x0 x1 hb0 hb1 hbr x0.length 1 0 (by omega) (fun j h => absurd h (by omega))
end Go.Proofs.YtmkanjcehhbmlaaGreatDoor.Pr
end

section
namespace Go.Proofs.YtmkanjcehhbmlaaGreatDoor.Pr
set_option linter.unusedSimpArgs false
set_option linter.unusedVariables false
open Go.RowKit Go.Proofs.YtmkanjcehhbmlaaGreatDoorW.PrintWords Ga
def zR : SR := ⟨false, ⟨#[48]⟩, ⟨#[49]⟩⟩
theorem num0 : customhouselaw19_number.f 0 = some (zR.f0, zR.f1, zR.f2) := by kernel_rfl
theorem zR_vld : vldS zR = true := by kernel_rfl
theorem zR_val : toQ zR = 0 := (isZ_iff zR_vld).1 (by kernel_rfl)
theorem ok_use {r : SR × Int} {q : Rat} (h : Ok r q) (h0 : r.2 = 0) : vldS r.1 = true ∧ toQ r.1 = q := by
  rcases h with ⟨_, h1, h2⟩ | h
  · exact ⟨h1, h2⟩
  · rw [h] at h0; cases h0
theorem list_ext {a b : List SR} (hl : a.length = b.length) (h : ∀ i, i < a.length → rdS a i = rdS b i) : a = b := by
  apply List.ext_getElem hl
  intro i h1 h2
  have := h i h1
  unfold rdS at this
  rw [List.getD_eq_getElem?_getD, List.getD_eq_getElem?_getD, List.getElem?_eq_getElem h1, List.getElem?_eq_getElem h2] at this
  exact this
end Go.Proofs.YtmkanjcehhbmlaaGreatDoor.Pr
end

section
namespace Go.Proofs.YtmkanjcehhbmlaaGreatDoor.Pr
set_option linter.unusedSimpArgs false
set_option linter.unusedVariables false
open Go.RowKit Go.Proofs.YtmkanjcehhbmlaaGreatDoorW.PrintWords Ga
theorem solve_f {l0 : List (List SR)} {l1 : List SR} (h0 : l0.length ≤ 1000) (h1 : l1.length ≤ 1000) (hr : ∀ j, j < l0.length → (l0.getD j []).length ≤ 1000) : linear_Solve.f l0 l1 = some (linF l0 l1) := by
  unfold linear_Solve.f
  rw [if_pos ⟨by omega, by omega, fun r hm => by
    obtain ⟨j, hj, rfl⟩ := List.getElem_of_mem hm
    have := hr j hj
    rw [List.getD_eq_getElem?_getD, List.getElem?_eq_getElem hj] at this
    simpa using Nat.le_trans this (by omega : 1000 ≤ 100000)⟩]
theorem lin_cases (l0 : List (List SR)) (l1 : List SR) : linF l0 l1 = ([], 1) ∨ linF l0 l1 = ([], 2) ∨ (linF l0 l1 = ([], 12)) ∨ (goodA l0 l1 = true ∧ (linF l0 l1).2 = 0) := by
  cases h : goodA l0 l1
  · exact .inl (linF_bad h)
  · rcases linF_ok h with h1 | h1 | h1
    · exact .inr (.inl h1)
    · exact .inr (.inr (.inl h1.1))
    · exact .inr (.inr (.inr ⟨rfl, h1.1⟩))
/-- The system's rows as numbers. -/
theorem sysQ_row {l0 : List (List SR)} {l1 : List SR} {i j : Nat} (hl : (l0.getD i []).length = l1.length) (hj : j < l1.length) : sysQ l0 l1 i j = toQ (rdS (l0.getD i []) j) := by
  unfold sysQ qM
  rw [sysM_rd hl (by omega), if_neg (by omega)]
end Go.Proofs.YtmkanjcehhbmlaaGreatDoor.Pr
end

section
namespace Go.Proofs.YtmkanjcehhbmlaaGreatDoor.Pr
set_option linter.unusedSimpArgs false
set_option linter.unusedVariables false
open Go.RowKit Go.Proofs.YtmkanjcehhbmlaaGreatDoorW.PrintWords Ga
theorem valid_ev (s : SR) : Ev (fun k => ratio_Valid.f k s.f0 s.f1 s.f2) (vldS s) := Ev.step (f := fun _ => some (vldS s)) (fun k => valid_val _ _ _ k) (Ev.now _)
/-- What square says where it says yes. -/
def Sq (x0 : List (List SR)) (x1 : List SR) (i : Nat) : Prop := ∀ t, t < i → (x0.getD t []).length = x1.length ∧ vldS (rdS x1 t) = true ∧ ∀ j, j < x1.length → vldS (rdS (x0.getD t []) j) = true
mutual
theorem sq_l0 (x0 : List (List SR)) (x1 : List SR) (hl : x0.length = x1.length) (hb : x1.length ≤ BIG) : ∀ d i, i + d = x0.length → Sq x0 x1 i → ∃ r, Ev (fun k => customhouselaw19_square.l0 k x0 x1 (i : Nat)) r ∧ (r = true → Sq x0 x1 x0.length)
  | 0, i, h, hs => by
    obtain rfl : i = x0.length := by omega
    refine ⟨true, Ev.step (f := fun _ => some true) (fun k => ?_) (Ev.now true), fun _ => hs⟩
    simp only [customhouselaw19_square.l0]
    rw [if_neg (by omega)]
  | d + 1, i, h, hs => by
    have hj2 : ∀ x5, Ev (fun k => customhouselaw19_square.j2 k x0 x1 x5 true) false := fun x5 => Ev.step (f := fun _ => some false) (fun k => by simp only [customhouselaw19_square.j2]; rfl) (Ev.now false)
    by_cases hr : (x0.getD i []).length = x1.length
    · have hstep : ∀ k, customhouselaw19_square.l0 (k + 1) x0 x1 (i : Nat) = ((ratio_Valid.f k (rdS x1 i).f0 (rdS x1 i).f1 (rdS x1 i).f2).bind fun t => customhouselaw19_square.j2 k x0 x1 (i : Nat) (!t)) := fun k => by
        simp only [customhouselaw19_square.l0]
        rw [if_pos (by omega), if_pos (by omega), if_pos (show ((rd_L3 x0 (i : Nat)).length : Int) = (x1.length : Int) from by show ((x0.getD i []).length : Int) = _; omega), if_pos (by omega), rdT]
      cases hv : vldS (rdS x1 i)
      · exact ⟨false, Ev.step hstep (Ev.bind (valid_ev _) (by rw [hv]; exact hj2 _)), fun h => by cases h⟩
      · obtain ⟨r, h1, h2⟩ := sq_l1 x0 x1 hl hb d i (by omega) hs hr hv x1.length 0 (by omega) (fun j h => absurd h (by omega))
        refine ⟨r, Ev.step hstep (Ev.bind (valid_ev _) ?_), h2⟩
        rw [hv]
        exact Ev.step (fun k => by simp only [customhouselaw19_square.j2]; rfl) h1
    · refine ⟨false, Ev.step (fun k => ?_) (hj2 (i : Nat)), fun h => by cases h⟩
      simp only [customhouselaw19_square.l0]
      rw [if_pos (by omega), if_pos (by omega), if_neg (show ¬ ((rd_L3 x0 (i : Nat)).length : Int) = (x1.length : Int) from by show ¬ ((x0.getD i []).length : Int) = _; omega)]
  termination_by d i => (d, 0, 0)
theorem sq_l1 (x0 : List (List SR)) (x1 : List SR) (hl : x0.length = x1.length) (hb : x1.length ≤ BIG) : ∀ d i, i + 1 + d = x0.length → Sq x0 x1 i → (x0.getD i []).length = x1.length → vldS (rdS x1 i) = true → ∀ e j, j + e = x1.length → (∀ t, t < j → vldS (rdS (x0.getD i []) t) = true) → ∃ r, Ev (fun k => customhouselaw19_square.l1 k x0 x1 (i : Nat) (j : Nat)) r ∧ (r = true → Sq x0 x1 x0.length)
  | d, i, h, hs, hr, hv, 0, j, he, hj => by
    have hw := wr1 (i := i) (n := x0.length) (by omega) (by rw [hl]; exact hb)
    obtain ⟨r, h1, h2⟩ := sq_l0 x0 x1 hl hb d (i + 1) (by omega) (fun t ht => by
      by_cases e : t = i
      · subst e; exact ⟨hr, hv, fun u hu => hj u (by omega)⟩
      · exact hs t (by omega))
    refine ⟨r, Ev.step (fun k => ?_) h1, h2⟩
    simp only [customhouselaw19_square.l1]
    rw [if_pos (by omega), if_pos (by omega), if_neg (show ¬ ((j : Nat) : Int) < ((rd_L3 x0 (i : Nat)).length : Int) from by show ¬ ((j : Nat) : Int) < ((x0.getD i []).length : Int); omega), hw]
  | d, i, h, hs, hr, hv, e + 1, j, he, hj => by
    have hw := wr1 (i := j) (n := x1.length) (by omega) hb
    have hstep : ∀ k, customhouselaw19_square.l1 (k + 1) x0 x1 (i : Nat) (j : Nat) = ((ratio_Valid.f k (rdS (x0.getD i []) j).f0 (rdS (x0.getD i []) j).f1 (rdS (x0.getD i []) j).f2).bind fun t => if t = true then customhouselaw19_square.l1 k x0 x1 (i : Nat) ((j + 1 : Nat) : Int) else some false) := fun k => by
      simp only [customhouselaw19_square.l1]
      rw [if_pos (by omega), if_pos (by omega), if_pos (show ((j : Nat) : Int) < ((rd_L3 x0 (i : Nat)).length : Int) from by show ((j : Nat) : Int) < ((x0.getD i []).length : Int); omega), if_pos (by omega), rdT, show rd_L3 x0 (i : Nat) = x0.getD i [] from rfl, hw]
    cases hv2 : vldS (rdS (x0.getD i []) j)
    · refine ⟨false, Ev.step hstep (Ev.bind (valid_ev _) ?_), fun h => by cases h⟩
      rw [hv2]
      simp only [Bool.false_eq_true, if_false]; exact Ev.now false
    · obtain ⟨r, h1, h2⟩ := sq_l1 x0 x1 hl hb d i h hs hr hv e (j + 1) (by omega) (fun t ht => by
        by_cases e : t = j
        · subst e; exact hv2
        · exact hj t (by omega))
      refine ⟨r, Ev.step hstep (Ev.bind (valid_ev _) ?_), h2⟩
      rw [hv2]
      simp only [if_true]; exact h1
  termination_by d i _ _ _ _ e j => (d, 1, e)
end
theorem square_ev (x0 : List (List SR)) (x1 : List SR) (hb0 : x0.length ≤ BIG) (hb1 : x1.length ≤ BIG) (hbr : ∀ r ∈ x0, r.length ≤ BIG) : ∃ r, Ev (fun k => customhouselaw19_square.f k x0 x1) r ∧ (r = true → goodA x0 x1 = true ∧ x1.length ≤ 8) := by
  obtain ⟨fw, hf, hfw⟩ := few_ev x0 x1 hb0 hb1 hbr
  have hj : Ev (fun k => customhouselaw19_square.j0 k x0 x1 true) false := Ev.step (f := fun _ => some false) (fun k => by simp only [customhouselaw19_square.j0]; rfl) (Ev.now false)
  cases fw
  · refine ⟨false, Ev.bind hf ?_, fun h => by cases h⟩
    simp only [Bool.false_eq_true, if_false]; exact hj
  · by_cases hl : x0.length = x1.length
    · have hl' : (x0.length : Int) = (x1.length : Int) := by omega
      by_cases h8 : x1.length ≤ 8
      · have h8' : decide ((x1.length : Int) > 8) = false := decide_eq_false (by omega)
        obtain ⟨r, h1, h2⟩ := sq_l0 x0 x1 hl hb1 x0.length 0 (by omega) (fun t h => absurd h (by omega))
        refine ⟨r, Ev.bind hf ?_, fun hr => ⟨?_, h8⟩⟩
        · simp only [if_true, hl', h8']
          exact Ev.step (fun k => by simp only [customhouselaw19_square.j0]; rfl) h1
        · have hs := h2 hr
          unfold goodA
          rw [Bool.and_eq_true, Bool.and_eq_true, decide_eq_true_eq, List.all_eq_true, List.all_eq_true]
          refine ⟨hl, fun s hm => ?_, fun rw_ hm => ?_⟩
          · obtain ⟨t, ht, rfl⟩ := List.getElem_of_mem hm
            have := (hs t (by omega)).2.1
            unfold rdS at this
            rw [List.getD_eq_getElem?_getD, List.getElem?_eq_getElem ht] at this
            exact this
          · obtain ⟨t, ht, rfl⟩ := List.getElem_of_mem hm
            obtain ⟨q1, _, q4⟩ := hs t ht
            rw [List.getD_eq_getElem?_getD, List.getElem?_eq_getElem ht] at q1 q4
            simp only [Option.getD_some] at q1 q4
            rw [Bool.and_eq_true, decide_eq_true_eq, List.all_eq_true]
            refine ⟨q1, fun s hm2 => ?_⟩
            obtain ⟨u, hu, rfl⟩ := List.getElem_of_mem hm2
            have := q4 u (by omega)
            unfold rdS at this
            rw [List.getD_eq_getElem?_getD, List.getElem?_eq_getElem hu] at this
            exact this
      · have h8' : decide ((x1.length : Int) > 8) = true := decide_eq_true (by omega)
        refine ⟨false, Ev.bind hf ?_, fun h => by cases h⟩
        simp only [if_true, hl', h8']; exact hj
    · have hl' : ¬ (x0.length : Int) = (x1.length : Int) := by omega
      refine ⟨false, Ev.bind hf ?_, fun h => by cases h⟩
      simp only [if_true, hl', if_false]; exact hj
end Go.Proofs.YtmkanjcehhbmlaaGreatDoor.Pr
end

section
namespace Go.Proofs.YtmkanjcehhbmlaaGreatDoor.Pr
set_option linter.unusedSimpArgs false
set_option linter.unusedVariables false
open Go.RowKit Go.Proofs.YtmkanjcehhbmlaaGreatDoorW.PrintWords Ga
theorem re_symm {n : Nat} {A M : Nat → Nat → Rat} (h : RE n A M) : RE n M A :=
  ⟨fun c => by obtain ⟨d, hd⟩ := h.bw c; exact ⟨d, fun y => (hd y).symm⟩, fun c => by obtain ⟨d, hd⟩ := h.fw c; exact ⟨d, fun y => (hd y).symm⟩, fun y => (h.own y).symm⟩
theorem sol_zero (n : Nat) (A : Nat → Nat → Rat) : Sol n A (fun _ => 0) (fun _ => 0) := fun i _ => sumN_zero fun j _ => Rat.mul_zero _
theorem re_sing {n : Nat} {A M : Nat → Nat → Rat} (h : RE n A M) (s : Sing n A) : Sing n M := by
  obtain ⟨y, hy, j, hj, hne⟩ := s
  obtain ⟨c, hc⟩ := h.fw (fun _ => 0)
  have h0 : ∀ i, i < n → c i = 0 := fun i hi => by rw [← (hc _).1 (sol_zero n A) i hi]; exact sol_zero n M i hi
  exact ⟨y, (Sol.congr (fun _ _ _ _ => rfl) h0).1 ((hc y).1 hy), j, hj, hne⟩
/-- Two good systems of one size, of which the singular ones go together, and so do their own solutions under p. -/
theorem lin_same {a a' : List (List SR)} {b b' : List SR} (hg : goodA a b = true) (hg' : goodA a' b' = true) (hn : b'.length = b.length) (pm : Nat → Nat) (hp : ∀ i, i < b.length → pm i < b.length)
    (h1 : Sing b.length (sysQ a b) → Reg b.length (sysQ a' b') → False) (h2 : Sing b.length (sysQ a' b') → Reg b.length (sysQ a b) → False)
    (h3 : ∀ y, Sol b.length (sysQ a b) (fun i => toQ (rdS b i)) y → Sol b.length (sysQ a' b') (fun i => toQ (rdS b' i)) (fun i => y (pm i))) :
    (linF a b).2 = 2 ∨ (linF a' b').2 = 2 ∨ ((linF a b).2 = (linF a' b').2 ∧ (linF a b).1.length = (linF a' b').1.length ∧ ∀ i, i < (linF a b).1.length → rdS (linF a' b').1 i = rdS (linF a b).1 (pm i)) := by
  have k2 := linF_ok hg'
  rw [hn] at k2
  rcases linF_ok hg with x | ⟨x, xs⟩ | ⟨x0, xl, xv, xr, xs⟩
  · rw [x]; exact .inl rfl
  · rcases k2 with y | ⟨y, ys⟩ | ⟨y0, yl, yv, yr, ys⟩
    · rw [y]; exact .inr (.inl rfl)
    · rw [x, y]; exact .inr (.inr ⟨rfl, rfl, fun i hi => absurd hi (by simp)⟩)
    · exact (h1 xs yr).elim
  · rcases k2 with y | ⟨y, ys⟩ | ⟨y0, yl, yv, yr, ys⟩
    · rw [y]; exact .inr (.inl rfl)
    · exact (h2 ys xr).elim
    · refine .inr (.inr ⟨x0.trans y0.symm, xl.trans yl.symm, fun i hi => toQ_inj (yv i (by omega)) (xv _ (hp i (by omega))) ?_⟩)
      obtain ⟨z, _, hz⟩ := yr (fun i => toQ (rdS b' i))
      rw [hz _ ys i (by omega), ← hz _ (h3 _ xs) i (by omega)]
theorem lin_same_re {a a' : List (List SR)} {b b' : List SR} (hg : goodA a b = true) (hg' : goodA a' b' = true) (hn : b'.length = b.length) (hE : RE b.length (sysQ a b) (sysQ a' b'))
    (hb : ∀ i, i < b.length → sysQ a b i b.length = toQ (rdS b i)) (hb' : ∀ i, i < b.length → sysQ a' b' i b.length = toQ (rdS b' i)) :
    (linF a b).2 = 2 ∨ (linF a' b').2 = 2 ∨ ((linF a b).2 = (linF a' b').2 ∧ (linF a b).1 = (linF a' b').1) := by
  rcases lin_same hg hg' hn id (fun _ h => h) (fun s r => reg_not_sing r (re_sing hE s)) (fun s r => reg_not_sing r (re_sing (re_symm hE) s)) (fun y hy => by
    have h1 := (Sol.congr (M := sysQ a b) (y := y) (fun _ _ _ _ => rfl) hb).2 hy
    exact (Sol.congr (fun _ _ _ _ => rfl) hb').1 ((hE.own y).1 h1)) with h | h | ⟨h1, h2, h3⟩
  · exact .inl h
  · exact .inr (.inl h)
  · exact .inr (.inr ⟨h1, list_ext h2 fun i hi => (h3 i hi).symm⟩)
theorem sysQ_rhs {a : List (List SR)} {b : List SR} (hg : goodA a b = true) : ∀ i, i < b.length → sysQ a b i b.length = toQ (rdS b i) := fun i hi => by
  unfold sysQ qM
  rw [sysM_rd ((goodA_parts hg).2.2 i hi).1 (Nat.le_refl _), if_pos rfl]
theorem sysQ_in {a : List (List SR)} {b : List SR} (hg : goodA a b = true) {i j : Nat} (hi : i < b.length) (hj : j < b.length) : sysQ a b i j = toQ (rdS (a.getD i []) j) := sysQ_row ((goodA_parts hg).2.2 i hi).1 hj
/-- Good: put together. -/
theorem goodA_mk {a : List (List SR)} {b : List SR} (h0 : a.length = b.length) (h1 : ∀ i, i < b.length → vldS (rdS b i) = true) (h2 : ∀ i, i < b.length → (a.getD i []).length = b.length ∧ ∀ j, j < b.length → vldS (rdS (a.getD i []) j) = true) : goodA a b = true := by
  unfold goodA
  rw [Bool.and_eq_true, Bool.and_eq_true, decide_eq_true_eq, List.all_eq_true, List.all_eq_true]
  refine ⟨h0, fun s hs => ?_, fun r hs => ?_⟩
  · obtain ⟨t, ht, rfl⟩ := List.getElem_of_mem hs
    have := h1 t ht
    unfold rdS at this
    rw [List.getD_eq_getElem?_getD, List.getElem?_eq_getElem ht] at this
    exact this
  · obtain ⟨t, ht, rfl⟩ := List.getElem_of_mem hs
    obtain ⟨q1, q2⟩ := h2 t (by omega)
    rw [List.getD_eq_getElem?_getD, List.getElem?_eq_getElem ht] at q1 q2
    simp only [Option.getD_some] at q1 q2
    rw [Bool.and_eq_true, decide_eq_true_eq, List.all_eq_true]
    refine ⟨q1, fun s hs => ?_⟩
    obtain ⟨u, hu, rfl⟩ := List.getElem_of_mem hs
    have := q2 u (by omega)
    unfold rdS at this
    rw [List.getD_eq_getElem?_getD, List.getElem?_eq_getElem hu] at this
    exact this
theorem not_reg_eq {n i k : Nat} {A : Nat → Nat → Rat} (hi : i < n) (hk : k < n) (hne : i ≠ k) (h : ∀ j, j < n → A i j = A k j) : ¬ Reg n A := fun hr => by
  obtain ⟨y, hy, _⟩ := hr (fun m => if m = i then 1 else 0)
  have h1 := hy i hi
  have h2 := hy k hk
  rw [dot_congr h] at h1
  dsimp only at h1 h2
  rw [h1, if_pos rfl, if_neg (fun e => hne e.symm)] at h2
  exact absurd h2 (by decide)
theorem not_reg_zero {n i : Nat} {A : Nat → Nat → Rat} (hi : i < n) (h : ∀ j, j < n → A i j = 0) : ¬ Reg n A := fun hr => by
  obtain ⟨y, hy, _⟩ := hr (fun _ => 1)
  have h1 := hy i hi
  have : dot n (A i) y = 0 := sumN_zero fun j hj => by rw [h j hj, Rat.zero_mul]
  rw [this] at h1
  exact absurd (show (0 : Rat) = 1 from h1) (by decide)
theorem lin_dep {a : List (List SR)} {b : List SR} (hg : goodA a b = true) (hr : ¬ Reg b.length (sysQ a b)) : linF a b = ([], 12) ∨ linF a b = ([], 2) := by
  rcases linF_ok hg with h | ⟨h, _⟩ | ⟨_, _, _, h, _⟩
  · exact .inr h
  · exact .inl h
  · exact (hr h).elim
theorem getD_set (a : List (List SR)) (i j : Nat) (r : List SR) (h : i < a.length) : (a.set i r).getD j [] = if j = i then r else a.getD j [] := by
  rw [List.getD_eq_getElem?_getD, List.getD_eq_getElem?_getD, List.getElem?_set]
  by_cases e : i = j
  · subst e; rw [if_pos rfl, if_pos rfl, if_pos h]; rfl
  · rw [if_neg e, if_neg (fun h => e h.symm)]
/-- One row is another one. -/
theorem dep_eq {a : List (List SR)} {b : List SR} (hg : goodA a b = true) {i k : Nat} (hi : i < b.length) (hk : k < b.length) (hne : i ≠ k) : linF (a.set i (a.getD k [])) b = ([], 12) ∨ linF (a.set i (a.getD k [])) b = ([], 2) := by
  obtain ⟨g1, g2, g3⟩ := goodA_parts hg
  have hs := fun j => getD_set a i j (a.getD k []) (by omega)
  have hg' : goodA (a.set i (a.getD k [])) b = true := goodA_mk (by rw [List.length_set]; exact g1) g2 fun t ht => by
    rw [hs]; split
    · exact g3 k hk
    · exact g3 t ht
  refine lin_dep hg' (not_reg_eq hi hk hne fun j hj => ?_)
  rw [sysQ_in hg' hi hj, sysQ_in hg' hk hj, hs, hs, if_pos rfl, if_neg (fun e => hne e.symm)]
/-- One row is zeros. -/
theorem dep_zero {a : List (List SR)} {b : List SR} (hg : goodA a b = true) {i : Nat} (hi : i < b.length) : linF (a.set i (List.replicate b.length zR)) b = ([], 12) ∨ linF (a.set i (List.replicate b.length zR)) b = ([], 2) := by
  obtain ⟨g1, g2, g3⟩ := goodA_parts hg
  have hs := fun j => getD_set a i j (List.replicate b.length zR) (by omega)
  have hz : ∀ j, j < b.length → rdS (List.replicate b.length zR) j = zR := fun j hj => by
    unfold rdS; rw [List.getD_eq_getElem?_getD, List.getElem?_replicate, if_pos hj]; rfl
  have hg' : goodA (a.set i (List.replicate b.length zR)) b = true := goodA_mk (by rw [List.length_set]; exact g1) g2 fun t ht => by
    rw [hs]; split
    · exact ⟨List.length_replicate, fun j hj => by rw [hz j hj]; exact zR_vld⟩
    · exact g3 t ht
  refine lin_dep hg' (not_reg_zero hi fun j hj => ?_)
  rw [sysQ_in hg' hi hj, hs, if_pos rfl, hz j hj, zR_val]
theorem sumN_head (f : Nat → Rat) : ∀ n, sumN (n + 1) f = f 0 + sumN n (fun i => f (i + 1))
  | 0 => by simp [sumN]; grind
  | n + 1 => by rw [sumN, sumN_head f n, sumN]; grind
theorem sumN_rev : ∀ (n : Nat) (f : Nat → Rat), sumN n (fun i => f (n - 1 - i)) = sumN n f
  | 0, _ => rfl
  | n + 1, f => by
    rw [sumN, sumN_head f n, ← sumN_rev n (fun i => f (i + 1))]
    have : sumN n (fun i => f (n + 1 - 1 - i)) = sumN n (fun i => f (n - 1 - i + 1)) := sumN_congr fun i hi => by rw [show n + 1 - 1 - i = n - 1 - i + 1 by omega]
    rw [this, show n + 1 - 1 - n = 0 by omega]
    grind
theorem dot_rev (n : Nat) (r y : Nat → Rat) : dot n (fun j => r (n - 1 - j)) (fun j => y (n - 1 - j)) = dot n r y := sumN_rev n fun j => r j * y j
theorem revrev {n i : Nat} (h : i < n) : n - 1 - (n - 1 - i) = i := by omega
/-- The equations in the opposite order. -/
theorem re_rev (n : Nat) (A : Nat → Nat → Rat) : RE n A (fun i => A (n - 1 - i)) := by
  have key : ∀ c y, Sol n A c y ↔ Sol n (fun i => A (n - 1 - i)) (fun i => c (n - 1 - i)) y := fun c y =>
    ⟨fun h i hi => h _ (by omega), fun h i hi => by have := h (n - 1 - i) (by omega); simp only [revrev hi] at this; exact this⟩
  refine ⟨fun c => ⟨_, key c⟩, fun c => ⟨fun i => c (n - 1 - i), fun y => ?_⟩, fun y => key _ y⟩
  rw [key]
  exact Sol.congr (fun _ _ _ _ => rfl) fun i hi => by rw [revrev hi]
/-- The unknowns in the opposite order. -/
theorem sol_turned {n : Nat} {A T : Nat → Nat → Rat} (hT : ∀ i j, i < n → j < n → T i j = A i (n - 1 - j)) (c y : Nat → Rat) : Sol n A c y ↔ Sol n T c (fun j => y (n - 1 - j)) := by
  have e : ∀ i, i < n → dot n (T i) (fun j => y (n - 1 - j)) = dot n (A i) y := fun i hi => by rw [dot_congr (fun j hj => hT i j hi hj)]; exact dot_rev n (A i) y
  exact ⟨fun h i hi => by rw [e i hi]; exact h i hi, fun h i hi => by rw [← e i hi]; exact h i hi⟩
theorem sing_turned {n : Nat} {A T : Nat → Nat → Rat} (hT : ∀ i j, i < n → j < n → T i j = A i (n - 1 - j)) (h : Sing n A) : Sing n T := by
  obtain ⟨y, hy, j, hj, hne⟩ := h
  refine ⟨_, (sol_turned hT _ y).1 hy, n - 1 - j, by omega, ?_⟩
  rw [revrev hj]; exact hne
def backL (a : List (List SR)) (n : Nat) : List (List SR) := (List.range n).map fun i => a.getD (n - 1 - i) []
def rightL (b : List SR) (n : Nat) : List SR := (List.range n).map fun i => rdS b (n - 1 - i)
def turnL (a : List (List SR)) (n : Nat) : List (List SR) := (List.range n).map fun i => rightL (a.getD i []) n
theorem getD_range (n i : Nat) (f : Nat → List SR) : ((List.range n).map f).getD i [] = if i < n then f i else [] := by
  rw [List.getD_eq_getElem?_getD]
  by_cases h : i < n
  · simp [h]
  · simp [h]
theorem rdS_range (n i : Nat) (f : Nat → SR) (h : i < n) : rdS ((List.range n).map f) i = f i := by
  unfold rdS; rw [List.getD_eq_getElem?_getD]; simp [h]
theorem back_good {a : List (List SR)} {b : List SR} (hg : goodA a b = true) : goodA (backL a b.length) (rightL b b.length) = true := by
  obtain ⟨g1, g2, g3⟩ := goodA_parts hg
  have hl : (rightL b b.length).length = b.length := by unfold rightL; simp
  refine goodA_mk (by unfold backL; simp [hl]) (fun i hi => ?_) fun i hi => ?_
  · rw [hl] at hi; unfold rightL; rw [rdS_range _ _ _ hi]; exact g2 _ (by omega)
  · rw [hl] at hi ⊢; unfold backL; rw [getD_range, if_pos hi]; exact g3 _ (by omega)
theorem turn_good {a : List (List SR)} {b : List SR} (hg : goodA a b = true) : goodA (turnL a b.length) b = true := by
  obtain ⟨g1, g2, g3⟩ := goodA_parts hg
  refine goodA_mk (by unfold turnL; simp) g2 fun i hi => ?_
  unfold turnL
  rw [getD_range, if_pos hi]
  refine ⟨by unfold rightL; simp, fun j hj => ?_⟩
  unfold rightL
  rw [rdS_range _ _ _ hj]
  exact (g3 i hi).2 _ (by omega)
theorem back_same {a : List (List SR)} {b : List SR} (hg : goodA a b = true) : (linF a b).2 = 2 ∨ (linF (backL a b.length) (rightL b b.length)).2 = 2 ∨ ((linF a b).2 = (linF (backL a b.length) (rightL b b.length)).2 ∧ (linF a b).1 = (linF (backL a b.length) (rightL b b.length)).1) := by
  have hg' := back_good hg
  have hl : (rightL b b.length).length = b.length := by unfold rightL; simp
  have hR := sysQ_rhs hg'
  rw [hl] at hR
  refine lin_same_re hg hg' hl ((re_rev b.length (sysQ a b)).trans (RE.congr fun i j hi hj => ?_)) (sysQ_rhs hg) hR
  by_cases e : j = b.length
  · subst e
    rw [sysQ_rhs hg _ (by omega), hR i hi]
    unfold rightL; rw [rdS_range _ _ _ hi]
  · rw [sysQ_in hg (by omega) (by omega), sysQ_in hg' (by omega) (by omega)]
    unfold backL; rw [getD_range, if_pos hi]
theorem turn_same {a : List (List SR)} {b : List SR} (hg : goodA a b = true) : (linF a b).2 = 2 ∨ (linF (turnL a b.length) b).2 = 2 ∨ ((linF a b).2 = (linF (turnL a b.length) b).2 ∧ (linF a b).1 = rightL (linF (turnL a b.length) b).1 (linF (turnL a b.length) b).1.length) := by
  have hg' := turn_good hg
  have hT : ∀ i j, i < b.length → j < b.length → sysQ (turnL a b.length) b i j = sysQ a b i (b.length - 1 - j) := fun i j hi hj => by
    rw [sysQ_in hg' hi hj, sysQ_in hg hi (by omega)]
    unfold turnL; rw [getD_range, if_pos hi]; unfold rightL; rw [rdS_range _ _ _ hj]
  have hT' : ∀ i j, i < b.length → j < b.length → sysQ a b i j = sysQ (turnL a b.length) b i (b.length - 1 - j) := fun i j hi hj => by rw [hT i _ hi (by omega), revrev hj]
  rcases lin_same hg hg' rfl (fun i => b.length - 1 - i) (fun i hi => by omega) (fun s r => reg_not_sing r (sing_turned hT s)) (fun s r => reg_not_sing r (sing_turned hT' s)) (fun y hy => (sol_turned hT _ y).1 hy) with h | h | ⟨h1, h2, h3⟩
  · exact .inl h
  · exact .inr (.inl h)
  · refine .inr (.inr ⟨h1, list_ext (by unfold rightL; simp; exact h2) fun i hi => ?_⟩)
    unfold rightL
    rw [rdS_range _ _ _ (by omega), h3 _ (by omega)]
    rcases linF_ok hg with x | ⟨x, _⟩ | ⟨_, xl, _⟩
    · rw [x] at hi; exact absurd hi (by simp)
    · rw [x] at hi; exact absurd hi (by simp)
    · rw [← h2, xl, revrev (by omega)]
theorem re_multi {n i k : Nat} (hi : i < n) (hk : k < n) (hne : i ≠ k) {p : Rat} (hp : p ≠ 0) (A : Nat → Nat → Rat) : RE n A (fun m j => if m = i then A i j * p + A k j else A m j) := by
  refine (re_scale (k := i) A hp).trans ((re_elim hk _ (fun m => if m = i then -1 else 0)).trans (RE.congr fun m j hm hj => ?_))
  by_cases e : m = k
  · subst e; rw [if_pos rfl, if_neg (show ¬ m = i from fun h => hne h.symm), if_neg (show ¬ m = i from fun h => hne h.symm)]
  · rw [if_neg e]
    by_cases e2 : m = i
    · subst e2; simp only [if_true, if_neg (show ¬ k = m from fun h => hne h.symm)]; grind
    · simp only [if_neg e2]; grind
/-- The changed system: row i is multiplied, and row k is added to it. -/
theorem multi_same {a : List (List SR)} {b : List SR} (hg : goodA a b = true) {i k : Nat} (hi : i < b.length) (hk : k < b.length) (hne : i ≠ k) {p : Rat} (hp : p ≠ 0) {r : List SR} {s : SR} (hr : r.length = b.length)
    (hrv : ∀ j, j < b.length → vldS (rdS r j) = true ∧ toQ (rdS r j) = toQ (rdS (a.getD i []) j) * p + toQ (rdS (a.getD k []) j)) (hs : vldS s = true ∧ toQ s = toQ (rdS b i) * p + toQ (rdS b k)) :
    (linF a b).2 = 2 ∨ (linF (a.set i r) (b.set i s)).2 = 2 ∨ ((linF a b).2 = (linF (a.set i r) (b.set i s)).2 ∧ (linF a b).1 = (linF (a.set i r) (b.set i s)).1) := by
  obtain ⟨g1, g2, g3⟩ := goodA_parts hg
  have ha := fun j => getD_set a i j r (by omega)
  have hb := fun j => rdS_set b i j s hi
  have hl : (b.set i s).length = b.length := List.length_set
  have hg' : goodA (a.set i r) (b.set i s) = true := goodA_mk (by rw [List.length_set, hl]; exact g1) (fun t ht => by
    rw [hb]; split
    · exact hs.1
    · exact g2 t (by omega)) fun t ht => by
    rw [ha, hl]; split
    · exact ⟨hr, fun j hj => (hrv j hj).1⟩
    · exact g3 t (by omega)
  have hR := sysQ_rhs hg'
  rw [hl] at hR
  refine lin_same_re hg hg' hl ((re_multi hi hk hne hp (sysQ a b)).trans (RE.congr fun m j hm hj => ?_)) (sysQ_rhs hg) hR
  by_cases e : j = b.length
  · subst e
    rw [hR m hm, hb]
    by_cases e2 : m = i
    · rw [if_pos e2, if_pos e2, sysQ_rhs hg i hi, sysQ_rhs hg k hk, hs.2]
    · rw [if_neg e2, if_neg e2, sysQ_rhs hg m hm]
  · have hj' : j < b.length := by omega
    rw [sysQ_in hg' (by omega) (by omega), ha]
    by_cases e2 : m = i
    · rw [if_pos e2, if_pos e2, sysQ_in hg hi hj', sysQ_in hg hk hj', (hrv j hj').2]
    · rw [if_neg e2, if_neg e2, sysQ_in hg hm hj']
theorem same2_ev (x : List SR) (e : Int) (y : List SR) (f : Int) (hb : x.length ≤ BIG) (h : e = 2 ∨ f = 2 ∨ (e = f ∧ x = y)) : Ev (fun k => customhouselaw19_same.f k x e y f) true := by
  unfold customhouselaw19_same.f
  by_cases h1 : e = 2
  · simp only [if_pos h1]; exact Ev.now true
  · by_cases h2 : f = 2
    · simp only [if_neg h1, if_pos h2]; exact Ev.now true
    · obtain ⟨h3, h4⟩ := (h.resolve_left h1).resolve_left h2
      simp only [if_neg h1, if_neg h2, if_pos h3]
      obtain ⟨r, hs, hr⟩ := same_ev x y hb
      rw [hr.2 h4] at hs
      exact Ev.bind hs (Ev.now true)
end Go.Proofs.YtmkanjcehhbmlaaGreatDoor.Pr
end
