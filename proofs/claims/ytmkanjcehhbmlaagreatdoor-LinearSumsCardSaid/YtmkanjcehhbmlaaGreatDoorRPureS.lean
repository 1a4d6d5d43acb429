/- LinearSums, as printed, answers true for all numbers. -/
import Derived.Test.YtmkanjcehhbmlaaGreatDoorRBuild
import Derived.Test.YtmkanjcehhbmlaaGreatDoorRFmt
import Derived.Test.YtmkanjcehhbmlaaGreatDoorRGL1
import Derived.Test.YtmkanjcehhbmlaaGreatDoorRGL2
import Derived.Test.YtmkanjcehhbmlaaGreatDoorRGN
import Derived.Test.YtmkanjcehhbmlaaGreatDoorRGN2
import Derived.Test.YtmkanjcehhbmlaaGreatDoorRGN3
import Derived.Test.YtmkanjcehhbmlaaGreatDoorRGP
import Derived.Test.YtmkanjcehhbmlaaGreatDoorRGRR
import Derived.Test.YtmkanjcehhbmlaaGreatDoorRGW
import Derived.Test.YtmkanjcehhbmlaaGreatDoorRGW2
import Derived.Test.YtmkanjcehhbmlaaGreatDoorRHead19
import Derived.Test.YtmkanjcehhbmlaaGreatDoorRLinQ
import Derived.Test.YtmkanjcehhbmlaaGreatDoorRLinS
import Derived.Test.YtmkanjcehhbmlaaGreatDoorRNatApply
import Derived.Test.YtmkanjcehhbmlaaGreatDoorRNatS
import Derived.Test.YtmkanjcehhbmlaaGreatDoorRNum
import Derived.Test.YtmkanjcehhbmlaaGreatDoorRNumAdd
import Derived.Test.YtmkanjcehhbmlaaGreatDoorRNumCmp
import Derived.Test.YtmkanjcehhbmlaaGreatDoorRNumDiv
import Derived.Test.YtmkanjcehhbmlaaGreatDoorRNumIs
import Derived.Test.YtmkanjcehhbmlaaGreatDoorRNumMul
import Derived.Test.YtmkanjcehhbmlaaGreatDoorRNumOps
import Derived.Test.YtmkanjcehhbmlaaGreatDoorRNumParse
import Derived.Test.YtmkanjcehhbmlaaGreatDoorRNumText
import Derived.Test.YtmkanjcehhbmlaaGreatDoorRNumVal
import Derived.Test.YtmkanjcehhbmlaaGreatDoorRPrA1
import Derived.Test.YtmkanjcehhbmlaaGreatDoorRPrA11
import Derived.Test.YtmkanjcehhbmlaaGreatDoorRPrA3
import Derived.Test.YtmkanjcehhbmlaaGreatDoorRPrA4
import Derived.Test.YtmkanjcehhbmlaaGreatDoorRPrA5
import Derived.Test.YtmkanjcehhbmlaaGreatDoorRPrA6
import Derived.Test.YtmkanjcehhbmlaaGreatDoorRPrB1
import Derived.Test.YtmkanjcehhbmlaaGreatDoorRPrB2
import Derived.Test.YtmkanjcehhbmlaaGreatDoorRPrB3
import Derived.Test.YtmkanjcehhbmlaaGreatDoorRPrC1
import Derived.Test.YtmkanjcehhbmlaaGreatDoorRPrE2
import Derived.Test.YtmkanjcehhbmlaaGreatDoorRRatOf
import Derived.Test.YtmkanjcehhbmlaaGreatDoorRRatOps
import Derived.Test.YtmkanjcehhbmlaaGreatDoorRRatProd
import Derived.Test.YtmkanjcehhbmlaaGreatDoorRRatS
import Derived.Test.YtmkanjcehhbmlaaGreatDoorRRatSub1
import Derived.Test.YtmkanjcehhbmlaaGreatDoorRRatSum
import Derived.Test.YtmkanjcehhbmlaaGreatDoorRRatVal
import Derived.Test.YtmkanjcehhbmlaaGreatDoorRRatWrap
import Derived.Test.YtmkanjcehhbmlaaGreatDoorRRegInv
import Derived.Test.YtmkanjcehhbmlaaGreatDoorRShelf
import Derived.Test.YtmkanjcehhbmlaaGreatDoorRSpec
import Derived.Test.YtmkanjcehhbmlaaGreatDoorRTab
import Derived.Test.YtmkanjcehhbmlaaGreatDoorRWLast
set_option linter.all false
section
namespace Go.Proofs.YtmkanjcehhbmlaaGreatDoor.Pr
set_option linter.unusedSimpArgs false
set_option linter.unusedVariables false
open Go.RowKit Go.Proofs.YtmkanjcehhbmlaaGreatDoorW.PrintWords Ga
theorem valid_ev (s : SR) : Ev (fun k => ratio_Valid.f k s.f0 s.f1 s.f2) (vldS s) := Ev.step (f := fun _ => some (vldS s)) (fun k => valid_val _ _ _ k) (Ev.now _)
/-- What square says where it says yes. -/
def Sq (x0 : List (List SR)) (x1 : List SR) (i : Nat) : Prop := ∀ t, t < i → (x0.getD t []).length = x1.length ∧ vldS (rdS x1 t) = true ∧ ∀ j, j < x1.length → vldS (rdS (x0.getD t []) j) = true
mutual
theorem sq_l0 (x0 : List (List SR)) (x1 : List SR) (hl : x0.length = x1.length) (hb : x1.length ≤ BIG) : ∀ d i, i + d = x0.length → Sq x0 x1 i → ∃ r, Ev (fun k => customhouselaw19_square.l0 k x0 x1 (i : Nat)) r ∧ (r = true → Sq x0 x1 x0.length)
  | 0, i, h, hs => by
    obtain rfl : i = x0.length := by omega
    refine ⟨true, Ev.step (f := fun _ => some true) (fun k => ?_) (Ev.now true), fun _ => hs⟩
    simp only [customhouselaw19_square.l0]
    rw [if_neg (by omega)]
  | d + 1, i, h, hs => by
    have hj2 : ∀ x5, Ev (fun k => customhouselaw19_square.j2 k x0 x1 x5 true) false := fun x5 => Ev.step (f := fun _ => some false) (fun k => by simp only [customhouselaw19_square.j2]; rfl) (Ev.now false)
    by_cases hr : (x0.getD i []).length = x1.length
    · have hstep : ∀ k, customhouselaw19_square.l0 (k + 1) x0 x1 (i : Nat) = ((ratio_Valid.f k (rdS x1 i).f0 (rdS x1 i).f1 (rdS x1 i).f2).bind fun t => customhouselaw19_square.j2 k x0 x1 (i : Nat) (!t)) := fun k => by
        simp only [customhouselaw19_square.l0]
        rw [if_pos (by omega), if_pos (by omega), if_pos (show ((rd_L3 x0 (i : Nat)).length : Int) = (x1.length : Int) from by show ((x0.getD i []).length : Int) = _; omega), if_pos (by omega), rdT]
      cases hv : vldS (rdS x1 i)
      · exact ⟨false, Ev.step hstep (Ev.bind (valid_ev _) (by rw [hv]; exact hj2 _)), fun h => by cases h⟩
      · obtain ⟨r, h1, h2⟩ := sq_l1 x0 x1 hl hb d i (by omega) hs hr hv x1.length 0 (by omega) (fun j h => absurd h (by omega))
        refine ⟨r, Ev.step hstep (Ev.bind (valid_ev _) ?_), h2⟩
        rw [hv]
        exact Ev.step (fun k => by simp only [customhouselaw19_square.j2]; rfl) h1
    · refine ⟨false, Ev.step (fun k => ?_) (hj2 (i : Nat)), fun h => by cases h⟩
      simp only [customhouselaw19_square.l0]
      rw [if_pos (by omega), if_pos (by omega), if_neg (show ¬ ((rd_L3 x0 (i : Nat)).length : Int) = (x1.length : Int) from by show ¬ ((x0.getD i []).length : Int) = _; omega)]
  termination_by d i => (d, 0, 0)
theorem sq_l1 (x0 : List (List SR)) (x1 : List SR) (hl : x0.length = x1.length) (hb : x1.length ≤ BIG) : ∀ d i, i + 1 + d = x0.length → Sq x0 x1 i → (x0.getD i []).length = x1.length → vldS (rdS x1 i) = true → ∀ e j, j + e = x1.length → (∀ t, t < j → vldS (rdS (x0.getD i []) t) = true) → ∃ r, Ev (fun k => customhouselaw19_square.l1 k x0 x1 (i : Nat) (j : Nat)) r ∧ (r = true → Sq x0 x1 x0.length)
  | d, i, h, hs, hr, hv, 0, j, he, hj => by
    have hw := wr1 (i := i) (n := x0.length) (by omega) (by rw [hl]; exact hb)
    obtain ⟨r, h1, h2⟩ := sq_l0 x0 x1 hl hb d (i + 1) (by omega) (fun t ht => by
      by_cases e : t = i
      · subst e; exact ⟨hr, hv, fun u hu => hj u (by omega)⟩
      · exact hs t (by omega))
    refine ⟨r, Ev.step (fun k => ?_) h1, h2⟩
    simp only [customhouselaw19_square.l1]
    rw [if_pos (by omega), if_pos (by omega), if_neg (show ¬ ((j : Nat) : Int) < ((rd_L3 x0 (i : Nat)).length : Int) from by show ¬ ((j : Nat) : Int) < ((x0.getD i []).length : Int); omega), hw]
  | d, i, h, hs, hr, hv, e + 1, j, he, hj => by
    have hw := wr1 (i := j) (n := x1.length) (by omega) hb
    have hstep : ∀ k, customhouselaw19_square.l1 (k + 1) x0 x1 (i : Nat) (j : Nat) = ((ratio_Valid.f k (rdS (x0.getD i []) j).f0 (rdS (x0.getD i []) j).f1 (rdS (x0.getD i []) j).f2).bind fun t => if t = true then customhouselaw19_square.l1 k x0 x1 (i : Nat) ((j + 1 : Nat) : Int) else some false) := fun k => by
      simp only [customhouselaw19_square.l1]
      rw [if_pos (by omega), if_pos (by omega), if_pos (show ((j : Nat) : Int) < ((rd_L3 x0 (i : Nat)).length : Int) from by show ((j : Nat) : Int) < ((x0.getD i []).length : Int); omega), if_pos (by omega), rdT, show rd_L3 x0 (i : Nat) = x0.getD i [] from rfl, hw]
    cases hv2 : vldS (rdS (x0.getD i []) j)
    · refine ⟨false, Ev.step hstep (Ev.bind (valid_ev _) ?_), fun h => by cases h⟩
      rw [hv2]
      simp only [Bool.false_eq_true, if_false]; exact Ev.now false
    · obtain ⟨r, h1, h2⟩ := sq_l1 x0 x1 hl hb d i h hs hr hv e (j + 1) (by omega) (fun t ht => by
        by_cases e : t = j
        · subst e; exact hv2
        · exact hj t (by omega))
      refine ⟨r, Ev.step hstep (Ev.bind (valid_ev _) ?_), h2⟩
      rw [hv2]
      simp only [if_true]; exact h1
  termination_by d i _ _ _ _ e j => (d, 1, e)
end
theorem square_ev (x0 : List (List SR)) (x1 : List SR) (hb0 : x0.length ≤ BIG) (hb1 : x1.length ≤ BIG) (hbr : ∀ r ∈ x0, r.length ≤ BIG) : ∃ r, Ev (fun k => customhouselaw19_square.f k x0 x1) r ∧ (r = true → goodA x0 x1 = true ∧ x1.length ≤ 8) := by
  obtain ⟨fw, hf, hfw⟩ := few_ev x0 x1 hb0 hb1 hbr
  have hj : Ev (fun k => customhouselaw19_square.j0 k x0 x1 true) false := Ev.step (f := fun _ => some false) (fun k => by simp only [customhouselaw19_square.j0]; rfl) (Ev.now false)
  cases fw
  · refine ⟨false, Ev.bind hf ?_, fun h => by cases h⟩
    simp only [Bool.false_eq_true, if_false]; exact hj
  · by_cases hl : x0.length = x1.length
    · have hl' : (x0.length : Int) = (x1.length : Int) := by omega
      by_cases h8 : x1.length ≤ 8
      · have h8' : decide ((x1.length : Int) > 8) = false := decide_eq_false (by omega)
        obtain ⟨r, h1, h2⟩ := sq_l0 x0 x1 hl hb1 x0.length 0 (by omega) (fun t h => absurd h (by omega))
        refine ⟨r, Ev.bind hf ?_, fun hr => ⟨?_, h8⟩⟩
        · simp only [if_true, hl', h8']
          exact Ev.step (fun k => by simp only [customhouselaw19_square.j0]; rfl) h1
        · have hs := h2 hr
          unfold goodA
          rw [Bool.and_eq_true, Bool.and_eq_true, decide_eq_true_eq, List.all_eq_true, List.all_eq_true]
          refine ⟨hl, fun s hm => ?_, fun rw_ hm => ?_⟩
          · obtain ⟨t, ht, rfl⟩ := List.getElem_of_mem hm
            have := (hs t (by omega)).2.1
            unfold rdS at this
            rw [List.getD_eq_getElem?_getD, List.getElem?_eq_getElem ht] at this
            exact this
          · obtain ⟨t, ht, rfl⟩ := List.getElem_of_mem hm
            obtain ⟨q1, _, q4⟩ := hs t ht
            rw [List.getD_eq_getElem?_getD, List.getElem?_eq_getElem ht] at q1 q4
            simp only [Option.getD_some] at q1 q4
            rw [Bool.and_eq_true, decide_eq_true_eq, List.all_eq_true]
            refine ⟨q1, fun s hm2 => ?_⟩
            obtain ⟨u, hu, rfl⟩ := List.getElem_of_mem hm2
            have := q4 u (by omega)
            unfold rdS at this
            rw [List.getD_eq_getElem?_getD, List.getElem?_eq_getElem hu] at this
            exact this
      · have h8' : decide ((x1.length : Int) > 8) = true := decide_eq_true (by omega)
        refine ⟨false, Ev.bind hf ?_, fun h => by cases h⟩
        simp only [if_true, hl', h8']; exact hj
    · have hl' : ¬ (x0.length : Int) = (x1.length : Int) := by omega
      refine ⟨false, Ev.bind hf ?_, fun h => by cases h⟩
      simp only [if_true, hl', if_false]; exact hj
theorem sing_congr {n : Nat} {A B : Nat → Nat → Rat} (h : ∀ i j, i < n → j < n → A i j = B i j) (hs : Sing n A) : Sing n B := by
  obtain ⟨y, hy, hj⟩ := hs
  exact ⟨y, (Sol.congr h fun _ _ => rfl).1 hy, hj⟩
theorem sys_same {l0 : List (List SR)} {l1 l2 : List SR} (h1 : goodA l0 l1 = true) (h2 : l2.length = l1.length) : ∀ i j, i < l1.length → j < l1.length → sysQ l0 l1 i j = sysQ l0 l2 i j := by
  intro i j hi hj
  have hr := ((goodA_parts h1).2.2 i hi).1
  rw [sysQ_row hr hj, sysQ_row (by omega) (by omega)]
/-- The error of two systems with the same left sides: the same, or ErrLimit at one of them. -/
theorem err_same {l0 : List (List SR)} {l1 l2 : List SR} (h1 : goodA l0 l1 = true) (h2 : goodA l0 l2 = true) (e1 : (linF l0 l1).2 ≠ 2) (e2 : (linF l0 l2).2 ≠ 2) : (linF l0 l1).2 = (linF l0 l2).2 := by
  have hl : l2.length = l1.length := by rw [← (goodA_parts h1).1, (goodA_parts h2).1]
  rcases linF_ok h1 with a | ⟨a, sa⟩ | ⟨a, _, _, ra, _⟩
  · rw [a] at e1; exact absurd rfl e1
  · rcases linF_ok h2 with b | ⟨b, _⟩ | ⟨b, _, _, rb, _⟩
    · rw [b] at e2; exact absurd rfl e2
    · rw [a, b]
    · exact (reg_not_sing rb (by rw [hl]; exact sing_congr (sys_same h1 hl) sa)).elim
  · rcases linF_ok h2 with b | ⟨b, sb⟩ | ⟨b, _⟩
    · rw [b] at e2; exact absurd rfl e2
    · exact (reg_not_sing ra (by rw [hl] at sb; exact sing_congr (fun i j hi hj => (sys_same h1 hl i j hi hj).symm) sb)).elim
    · rw [a, b]
theorem good_of {l0 : List (List SR)} {l1 d : List SR} (h1 : goodA l0 l1 = true) (hl : d.length = l1.length) (hv : ∀ i, i < d.length → vldS (rdS d i) = true) : goodA l0 d = true := by
  unfold goodA at h1 ⊢
  rw [Bool.and_eq_true, Bool.and_eq_true] at h1 ⊢
  rw [hl]
  refine ⟨h1.1, ?_, h1.2.2⟩
  rw [List.all_eq_true]
  intro s hs
  obtain ⟨t, ht, rfl⟩ := List.getElem_of_mem hs
  have := hv t ht
  unfold rdS at this
  rw [List.getD_eq_getElem?_getD, List.getElem?_eq_getElem ht] at this
  exact this
theorem add_f (a b : SR) : ratio_Add.f a.f0 a.f1 a.f2 b.f0 b.f1 b.f2 = some ((addS a b).1.f0, (addS a b).1.f1, (addS a b).1.f2, (addS a b).2) := rfl
theorem sums_l1 (x10 x12 x17 : List SR) (n : Nat) (hn : n ≤ 1000) (hx : x10.length = n) (hy : x12.length = n) (hz : x17.length = n) (vx : ∀ i, i < n → vldS (rdS x10 i) = true) (vy : ∀ i, i < n → vldS (rdS x12 i) = true) (vz : ∀ i, i < n → vldS (rdS x17 i) = true)
    (hs : ∀ i, i < n → toQ (rdS x17 i) = toQ (rdS x10 i) + toQ (rdS x12 i)) : ∀ d i w, i + d = n → w.length = i → (∀ t, t < i → vldS (rdS w t) = true ∧ toQ (rdS w t) = toQ (rdS x10 t) + toQ (rdS x12 t)) → Ev (fun k => customhouselaw19_LinearSums.l1 k true w x10 x12 x17 (i : Nat)) true
  | 0, i, w, h, hw, hv => by
    obtain rfl : i = n := by omega
    have heq : x17 = w := list_ext (by omega) fun t ht => toQ_inj (vz t (by omega)) (hv t (by omega)).1 (by rw [hs t (by omega), (hv t (by omega)).2])
    obtain ⟨b, h1, h2⟩ := same_ev x17 w (by unfold BIG; omega)
    rw [h2.2 heq] at h1
    refine Ev.step (f := fun k => customhouselaw19_LinearSums.j4 k true w x10 x12 x17 (i : Nat) false) (fun k => ?_) (Ev.step (f := fun k => (customhouseref19_Same.f k x17 w).bind fun t => some t) (fun k => ?_) (Ev.bind h1 (Ev.now true)))
    · simp only [customhouselaw19_LinearSums.l1]
      rw [if_neg (by omega)]
    · simp only [customhouselaw19_LinearSums.j4]; rfl
  | d + 1, i, w, h, hw, hv => by
    have hwr := wr1 (i := i) (n := n) (by omega) (by omega)
    have hd : decide ((i : Int) < (x12.length : Int)) = true := decide_eq_true (by omega)
    refine Ev.step (f := fun k => customhouselaw19_LinearSums.j4 k true w x10 x12 x17 (i : Nat) true) (fun k => ?_) ?_
    · simp only [customhouselaw19_LinearSums.l1]
      rw [if_pos (by omega), if_pos (by omega), hd]
    · have hstep : ∀ k, customhouselaw19_LinearSums.j4 (k + 1) true w x10 x12 x17 (i : Nat) true = if (addS (rdS x10 i) (rdS x12 i)).2 = 0 then customhouselaw19_LinearSums.l1 k true (w ++ [(addS (rdS x10 i) (rdS x12 i)).1]) x10 x12 x17 ((i + 1 : Nat) : Int) else some true := fun k => by
        simp only [customhouselaw19_LinearSums.j4]
        rw [if_pos trivial, if_pos (by omega), if_pos (by omega), if_pos (by omega), rdT, rdT, add_f, Option.bind_some]
        by_cases h0 : (addS (rdS x10 i) (rdS x12 i)).2 = 0
        · rw [if_pos h0, if_pos h0, if_pos (by omega), hwr]
        · rw [if_neg h0, if_neg h0]
      by_cases h0 : (addS (rdS x10 i) (rdS x12 i)).2 = 0
      · obtain ⟨p1, p2⟩ := ok_use (add_ok (vx i (by omega)) (vy i (by omega))) h0
        refine Ev.step (fun k => (hstep k).trans (if_pos h0)) (sums_l1 x10 x12 x17 n hn hx hy hz vx vy vz hs d (i + 1) _ (by omega) (by rw [List.length_append, hw]; rfl) fun t ht => ?_)
        rw [rdS_app]
        by_cases e : t < w.length
        · rw [if_pos e]; exact hv t (by omega)
        · rw [if_neg e, if_pos (by omega)]
          obtain rfl : t = i := by omega
          exact ⟨p1, p2⟩
      · exact Ev.step (f := fun _ => some true) (fun k => (hstep k).trans (if_neg h0)) (Ev.now true)
theorem sums_end (l0 : List (List SR)) (b c d : List SR) (h8 : b.length ≤ 8) (g1 : goodA l0 b = true) (g2 : goodA l0 c = true) (hdl : d.length = b.length) (hd : ∀ i, i < b.length → vldS (rdS d i) = true ∧ toQ (rdS d i) = toQ (rdS b i) + toQ (rdS c i)) :
    Ev (fun k => if (linF l0 b).2 = 0 then (if (linF l0 c).2 = 0 then (customhouselaw19_LinearSums.j2 k true ([] : List SR) (linF l0 b).1 (linF l0 b).2 (linF l0 c).1 (linF l0 c).2 (linF l0 d).1 (linF l0 d).2 ((linF l0 d).2 != 0)) else (customhouselaw19_LinearSums.j2 k true ([] : List SR) (linF l0 b).1 (linF l0 b).2 (linF l0 c).1 (linF l0 c).2 (linF l0 d).1 (linF l0 d).2 true)) else (customhouselaw19_LinearSums.j2 k true ([] : List SR) (linF l0 b).1 (linF l0 b).2 (linF l0 c).1 (linF l0 c).2 (linF l0 d).1 (linF l0 d).2 true)) true := by
  have hcl : c.length = b.length := by rw [← (goodA_parts g1).1, (goodA_parts g2).1]
  have g3 : goodA l0 d = true := good_of g1 hdl fun i hi => (hd i (by omega)).1
  have herr : Ev (fun k => customhouselaw19_LinearSums.j2 k true ([] : List SR) (linF l0 b).1 (linF l0 b).2 (linF l0 c).1 (linF l0 c).2 (linF l0 d).1 (linF l0 d).2 true) true := by
    refine Ev.step (f := fun _ => some true) (fun k => ?_) (Ev.now true)
    simp only [customhouselaw19_LinearSums.j2, if_true]
    by_cases e1 : (linF l0 b).2 = 2
    · rw [if_pos e1]
    · by_cases e2 : (linF l0 c).2 = 2
      · rw [if_neg e1, if_pos e2]
      · by_cases e3 : (linF l0 d).2 = 2
        · rw [if_neg e1, if_neg e2, if_pos e3]
        · rw [if_neg e1, if_neg e2, if_neg e3, if_pos (err_same g1 g2 e1 e2), err_same g1 g3 e1 e3]; simp
  by_cases e1 : (linF l0 b).2 = 0
  · by_cases e2 : (linF l0 c).2 = 0
    · simp only [if_pos e1, if_pos e2]
      by_cases e3 : (linF l0 d).2 = 0
      · have hne : ((linF l0 d).2 != 0) = false := by rw [e3]; rfl
        rw [hne]
        refine Ev.step (f := fun k => customhouselaw19_LinearSums.l1 k true [] (linF l0 b).1 (linF l0 c).1 (linF l0 d).1 ((0 : Nat) : Int)) (fun k => by simp only [customhouselaw19_LinearSums.j2]; rfl) ?_
        rcases linF_ok g1 with a | ⟨a, _⟩ | ⟨_, xl, xv, reg, xs⟩
        · rw [a] at e1; cases e1
        · rw [a] at e1; cases e1
        rcases linF_ok g2 with a | ⟨a, _⟩ | ⟨_, yl, yv, _, ys⟩
        · rw [a] at e2; cases e2
        · rw [a] at e2; cases e2
        rcases linF_ok g3 with a | ⟨a, _⟩ | ⟨_, zl, zv, _, zs⟩
        · rw [a] at e3; cases e3
        · rw [a] at e3; cases e3
        refine sums_l1 _ _ _ b.length (by omega) xl (by omega) (by omega) xv (fun i hi => yv i (by omega)) (fun i hi => zv i (by omega)) (fun i hi => ?_) b.length 0 [] (by omega) rfl (fun t ht => absurd ht (by omega))
        obtain ⟨y, hy, huniq⟩ := reg (fun i => toQ (rdS d i))
        rw [hcl] at ys
        rw [hdl] at zs
        have s1 : Sol b.length (sysQ l0 b) (fun i => toQ (rdS d i)) (fun i => toQ (rdS (linF l0 d).1 i)) := (Sol.congr (fun i j hi hj => (sys_same g1 hdl i j hi hj).symm) fun _ _ => rfl).1 zs
        have s2 : Sol b.length (sysQ l0 b) (fun i => toQ (rdS d i)) (fun i => toQ (rdS (linF l0 b).1 i) + toQ (rdS (linF l0 c).1 i)) := fun t ht => by
          rw [dot_add_y, xs t ht, (Sol.congr (fun i j hi hj => (sys_same g1 hcl i j hi hj).symm) fun _ _ => rfl).1 ys t ht]
          exact (hd t ht).2.symm
        have u1 := huniq _ s1 i hi
        have u2 := huniq _ s2 i hi
        rw [u1, u2]
      · have hne : ((linF l0 d).2 != 0) = true := bne_iff_ne.2 e3
        rw [hne]; exact herr
    · simp only [if_pos e1, if_neg e2]; exact herr
  · simp only [if_neg e1]; exact herr
theorem sums_l0 (l0 : List (List SR)) (b c : List SR) (h0 : l0.length ≤ 12) (hr0 : ∀ j, j < l0.length → (l0.getD j []).length ≤ 12) (h8 : b.length ≤ 8) (g1 : goodA l0 b = true) (g2 : goodA l0 c = true) : ∀ e i d, i + e = b.length → d.length = i → (∀ t, t < i → vldS (rdS d t) = true ∧ toQ (rdS d t) = toQ (rdS b t) + toQ (rdS c t)) →
    Ev (fun k => customhouselaw19_LinearSums.l0 k l0 b c true d (linF l0 b).1 (linF l0 b).2 (linF l0 c).1 (linF l0 c).2 (i : Nat)) true
  | 0, i, d, h, hdl, hd => by
    obtain rfl : i = b.length := by omega
    have hsf := solve_f (l0 := l0) (l1 := d) (by omega) (by omega) (fun j hj => by have := hr0 j hj; omega)
    refine Ev.step (fun k => ?_) (sums_end l0 b c d h8 g1 g2 hdl hd)
    simp only [customhouselaw19_LinearSums.l0]
    rw [if_neg (by omega), hsf, Option.bind_some]
  | e + 1, i, d, h, hdl, hd => by
    have hcl : c.length = b.length := by rw [← (goodA_parts g1).1, (goodA_parts g2).1]
    have hwr := wr1 (i := i) (n := b.length) (by omega) (by omega)
    have hstep : ∀ k, customhouselaw19_LinearSums.l0 (k + 1) l0 b c true d (linF l0 b).1 (linF l0 b).2 (linF l0 c).1 (linF l0 c).2 (i : Nat) = if (addS (rdS b i) (rdS c i)).2 = 0 then customhouselaw19_LinearSums.l0 k l0 b c true (d ++ [(addS (rdS b i) (rdS c i)).1]) (linF l0 b).1 (linF l0 b).2 (linF l0 c).1 (linF l0 c).2 ((i + 1 : Nat) : Int) else some true := fun k => by
      simp only [customhouselaw19_LinearSums.l0]
      rw [if_pos (by omega), if_pos (by omega), if_pos (by omega), rdT, rdT, add_f, Option.bind_some]
      by_cases h0 : (addS (rdS b i) (rdS c i)).2 = 0
      · rw [if_pos h0, if_pos h0, if_pos (by omega), hwr]
      · rw [if_neg h0, if_neg h0]
    by_cases hz : (addS (rdS b i) (rdS c i)).2 = 0
    · obtain ⟨p1, p2⟩ := ok_use (add_ok ((goodA_parts g1).2.1 i (by omega)) ((goodA_parts g2).2.1 i (by omega))) hz
      refine Ev.step (fun k => (hstep k).trans (if_pos hz)) (sums_l0 l0 b c h0 hr0 h8 g1 g2 e (i + 1) _ (by omega) (by rw [List.length_append, hdl]; rfl) fun t ht => ?_)
      rw [rdS_app]
      by_cases e1 : t < d.length
      · rw [if_pos e1]; exact hd t (by omega)
      · rw [if_neg e1, if_pos (by omega)]
        obtain rfl : t = i := by omega
        exact ⟨p1, p2⟩
    · exact Ev.step (f := fun _ => some true) (fun k => (hstep k).trans (if_neg hz)) (Ev.now true)
theorem pure_sums (l0 : List (List SR)) (l1 l2 : List SR) (hb0 : l0.length ≤ BIG) (hb1 : l1.length ≤ BIG) (hb2 : l2.length ≤ BIG) (hbr : ∀ r ∈ l0, r.length ≤ BIG) : ∃ k, customhouselaw19_LinearSums.f k l0 l1 l2 = some true := by
  apply Ev.rounds
  obtain ⟨r1, hs1, hr1⟩ := square_ev l0 l1 hb0 hb1 hbr
  obtain ⟨r2, hs2, hr2⟩ := square_ev l0 l2 hb0 hb2 hbr
  have hj0 : Ev (fun k => customhouselaw19_LinearSums.j0 k l0 l1 l2 true true) true := Ev.step (f := fun _ => some true) (fun k => by simp only [customhouselaw19_LinearSums.j0]; rfl) (Ev.now true)
  unfold customhouselaw19_LinearSums.f customhouselaw19_head.f
  simp only [Option.bind_some]
  refine Ev.bind hs1 ?_
  cases r1
  · simp only [Bool.false_eq_true, if_false]; exact hj0
  · simp only [if_true]
    refine Ev.bind hs2 ?_
    cases r2
    · exact hj0
    · obtain ⟨g1, h8⟩ := hr1 rfl
      obtain ⟨g2, _⟩ := hr2 rfl
      obtain ⟨e1, _, e3⟩ := goodA_parts g1
      have e2 := (goodA_parts g2).1
      have hrow : ∀ j, j < l0.length → (l0.getD j []).length ≤ 12 := fun j hj => by have := (e3 j (by omega)).1; omega
      have f1 := solve_f (l0 := l0) (l1 := l1) (by omega) (by omega) (fun j hj => by have := hrow j hj; omega)
      have f2 := solve_f (l0 := l0) (l1 := l2) (by omega) (by omega) (fun j hj => by have := hrow j hj; omega)
      refine Ev.step (fun k => ?_) (sums_l0 l0 l1 l2 (by omega) hrow h8 g1 g2 l1.length 0 [] (by omega) rfl (fun t ht => absurd ht (by omega)))
      simp only [customhouselaw19_LinearSums.j0]
      rw [if_neg (by decide), f1, Option.bind_some, f2, Option.bind_some]; rfl
end Go.Proofs.YtmkanjcehhbmlaaGreatDoor.Pr
end
