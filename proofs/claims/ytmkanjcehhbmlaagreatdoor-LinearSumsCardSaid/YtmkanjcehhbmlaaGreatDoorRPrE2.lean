/- lemmas (PrE2). -/
import Derived.Test.YtmkanjcehhbmlaaGreatDoorRBuild
import Derived.Test.YtmkanjcehhbmlaaGreatDoorRFmt
import Derived.Test.YtmkanjcehhbmlaaGreatDoorRGL1
import Derived.Test.YtmkanjcehhbmlaaGreatDoorRGL2
import Derived.Test.YtmkanjcehhbmlaaGreatDoorRGN
import Derived.Test.YtmkanjcehhbmlaaGreatDoorRGN2
import Derived.Test.YtmkanjcehhbmlaaGreatDoorRGN3
import Derived.Test.YtmkanjcehhbmlaaGreatDoorRGRR
import Derived.Test.YtmkanjcehhbmlaaGreatDoorRGW
import Derived.Test.YtmkanjcehhbmlaaGreatDoorRGW2
import Derived.Test.YtmkanjcehhbmlaaGreatDoorRHead19
import Derived.Test.YtmkanjcehhbmlaaGreatDoorRLinQ
import Derived.Test.YtmkanjcehhbmlaaGreatDoorRLinS
import Derived.Test.YtmkanjcehhbmlaaGreatDoorRNatApply
import Derived.Test.YtmkanjcehhbmlaaGreatDoorRNatS
import Derived.Test.YtmkanjcehhbmlaaGreatDoorRNum
import Derived.Test.YtmkanjcehhbmlaaGreatDoorRNumAdd
import Derived.Test.YtmkanjcehhbmlaaGreatDoorRNumCmp
import Derived.Test.YtmkanjcehhbmlaaGreatDoorRNumDiv
import Derived.Test.YtmkanjcehhbmlaaGreatDoorRNumIs
import Derived.Test.YtmkanjcehhbmlaaGreatDoorRNumMul
import Derived.Test.YtmkanjcehhbmlaaGreatDoorRNumOps
import Derived.Test.YtmkanjcehhbmlaaGreatDoorRNumParse
import Derived.Test.YtmkanjcehhbmlaaGreatDoorRNumText
import Derived.Test.YtmkanjcehhbmlaaGreatDoorRNumVal
import Derived.Test.YtmkanjcehhbmlaaGreatDoorRPrA1
import Derived.Test.YtmkanjcehhbmlaaGreatDoorRPrA11
import Derived.Test.YtmkanjcehhbmlaaGreatDoorRPrA3
import Derived.Test.YtmkanjcehhbmlaaGreatDoorRPrA4
import Derived.Test.YtmkanjcehhbmlaaGreatDoorRPrA5
import Derived.Test.YtmkanjcehhbmlaaGreatDoorRPrA6
import Derived.Test.YtmkanjcehhbmlaaGreatDoorRPrB1
import Derived.Test.YtmkanjcehhbmlaaGreatDoorRPrB2
import Derived.Test.YtmkanjcehhbmlaaGreatDoorRPrB3
import Derived.Test.YtmkanjcehhbmlaaGreatDoorRPrC1
import Derived.Test.YtmkanjcehhbmlaaGreatDoorRRatOf
import Derived.Test.YtmkanjcehhbmlaaGreatDoorRRatOps
import Derived.Test.YtmkanjcehhbmlaaGreatDoorRRatProd
import Derived.Test.YtmkanjcehhbmlaaGreatDoorRRatS
import Derived.Test.YtmkanjcehhbmlaaGreatDoorRRatSub1
import Derived.Test.YtmkanjcehhbmlaaGreatDoorRRatSum
import Derived.Test.YtmkanjcehhbmlaaGreatDoorRRatVal
import Derived.Test.YtmkanjcehhbmlaaGreatDoorRRatWrap
import Derived.Test.YtmkanjcehhbmlaaGreatDoorRRegInv
import Derived.Test.YtmkanjcehhbmlaaGreatDoorRShelf
import Derived.Test.YtmkanjcehhbmlaaGreatDoorRSpec
import Derived.Test.YtmkanjcehhbmlaaGreatDoorRTab
import Derived.Test.YtmkanjcehhbmlaaGreatDoorRWLast
set_option linter.all false
section
namespace Go.Proofs.YtmkanjcehhbmlaaGreatDoor.Pr
open Go.RowKit Go.Proofs.YtmkanjcehhbmlaaGreatDoorW.PrintWords Go.Proofs.YtmkanjcehhbmlaaGreatDoorW.PrintLast Go.Proofs.YtmkanjcehhbmlaaGreatDoorW.PrintMore
attribute [local go_sem] max2_int min2_int max_two min_two max_three min_three max_four min_four   -- for this text's walks alone
set_option linter.unusedVariables false
set_option linter.unusedSimpArgs false
mutual
def customhouselaw19_LinearSums.j0 : Nat → List (List (S31)) → List (S31) → List (S31) → Bool → Bool → Option (Bool)
  | 0, _, _, _, _, _ => none
  | k + 1, x0, x1, x2, x7, x32 => if x32 = true then (some x7) else ((linear_Solve.f x0 x1).bind fun bt462 => ((linear_Solve.f x0 x2).bind fun bt466 => (customhouselaw19_LinearSums.l0 k x0 x1 x2 x7 ([] : List (S31)) bt462.1 bt462.2 bt466.1 bt466.2 0)))
def customhouselaw19_LinearSums.l0 : Nat → List (List (S31)) → List (S31) → List (S31) → Bool → List (S31) → List (S31) → Int → List (S31) → Int → Int → Option (Bool)
  | 0, _, _, _, _, _, _, _, _, _, _ => none
  | k + 1, x0, x1, x2, x7, x8, x10, x11, x12, x13, x14 => if x14 < (x1.length : Int) then (if 0 ≤ x14 then (if x14 < (x2.length : Int) then ((ratio_Add.f ((rd_T31 x1 x14).f0) ((rd_T31 x1 x14).f1) ((rd_T31 x1 x14).f2) ((rd_T31 x2 x14).f0) ((rd_T31 x2 x14).f1) ((rd_T31 x2 x14).f2)).bind fun bt472 => (if bt472.2.2.2 = 0 then (if x8.length < 3518437208883 then (customhouselaw19_LinearSums.l0 k x0 x1 x2 x7 (x8 ++ [(⟨bt472.1, bt472.2.1, bt472.2.2.1⟩ : S31)]) x10 x11 x12 x13 (wrap64 (x14 + 1))) else (none)) else (some x7))) else (none)) else (none)) else ((linear_Solve.f x0 x8).bind fun bt480 => (if x11 = 0 then (if x13 = 0 then (customhouselaw19_LinearSums.j2 k x7 ([] : List (S31)) x10 x11 x12 x13 bt480.1 bt480.2 (bt480.2 != 0)) else (customhouselaw19_LinearSums.j2 k x7 ([] : List (S31)) x10 x11 x12 x13 bt480.1 bt480.2 true)) else (customhouselaw19_LinearSums.j2 k x7 ([] : List (S31)) x10 x11 x12 x13 bt480.1 bt480.2 true)))
def customhouselaw19_LinearSums.j2 : Nat → Bool → List (S31) → List (S31) → Int → List (S31) → Int → List (S31) → Int → Bool → Option (Bool)
  | 0, _, _, _, _, _, _, _, _, _ => none
  | k + 1, x7, x9, x10, x11, x12, x13, x17, x18, x86 => if x86 = true then (if x7 = true then (if x11 = 2 then (some true) else (if x13 = 2 then (some true) else (if x18 = 2 then (some true) else (if x11 = x13 then (some (x11 == x18)) else (some false))))) else (some false)) else (customhouselaw19_LinearSums.l1 k x7 x9 x10 x12 x17 0)
def customhouselaw19_LinearSums.l1 : Nat → Bool → List (S31) → List (S31) → List (S31) → List (S31) → Int → Option (Bool)
  | 0, _, _, _, _, _, _ => none
  | k + 1, x7, x9, x10, x12, x17, x19 => if x19 < (x17.length : Int) then (if x19 < (x10.length : Int) then (customhouselaw19_LinearSums.j4 k x7 x9 x10 x12 x17 x19 (decide (x19 < (x12.length : Int)))) else (customhouselaw19_LinearSums.j4 k x7 x9 x10 x12 x17 x19 false)) else (customhouselaw19_LinearSums.j4 k x7 x9 x10 x12 x17 x19 false)
def customhouselaw19_LinearSums.j4 : Nat → Bool → List (S31) → List (S31) → List (S31) → List (S31) → Int → Bool → Option (Bool)
  | 0, _, _, _, _, _, _, _ => none
  | k + 1, x7, x9, x10, x12, x17, x19, x125 => if x125 = true then (if 0 ≤ x19 then (if x19 < (x10.length : Int) then (if x19 < (x12.length : Int) then ((ratio_Add.f ((rd_T31 x10 x19).f0) ((rd_T31 x10 x19).f1) ((rd_T31 x10 x19).f2) ((rd_T31 x12 x19).f0) ((rd_T31 x12 x19).f1) ((rd_T31 x12 x19).f2)).bind fun bt486 => (if bt486.2.2.2 = 0 then (if x9.length < 3518437208883 then (customhouselaw19_LinearSums.l1 k x7 (x9 ++ [(⟨bt486.1, bt486.2.1, bt486.2.2.1⟩ : S31)]) x10 x12 x17 (wrap64 (x19 + 1))) else (none)) else (some x7))) else (none)) else (none)) else (none)) else (if x7 = true then ((customhouseref19_Same.f k x17 x9).bind fun t494 => (some t494)) else (some false))
end
def customhouselaw19_LinearSums.f (k : Nat) (l0 : List (List (S31))) (l1 : List (S31)) (l2 : List (S31)) : Option (Bool) := (customhouselaw19_head.f).bind fun t459 => ((customhouselaw19_square.f k l0 l1).bind fun t460 => (if t460 = true then ((customhouselaw19_square.f k l0 l2).bind fun t461 => (customhouselaw19_LinearSums.j0 k l0 l1 l2 t459 (!t461))) else (customhouselaw19_LinearSums.j0 k l0 l1 l2 t459 true)))
def customhouselaw19_LinearSums.T10 : Bool × List (List Nat × List Nat) := (true, [([], []), ([], []), ([0, 1], [0, 1]), ([2], [2]), ([], []), ([], []), ([4, 5], [4, 5]), ([6], [6]), ([3, 7], [3, 7]), ([8], [8]), ([9], [9]), ([9], [9]), ([], []), ([12, 10, 8, 0, 1, 2, 3, 4, 5, 6, 7, 8, 9, 10, 12], [10, 12]), ([11, 13, 0, 1, 2, 3, 4, 5, 6, 7, 8, 9, 10, 11, 12, 13], [11])])
def customhouselaw19_LinearSums.B10 : List Nat := [0, 0, 3, 7, 0, 0, 48, 112, 255, 511, 1023, 1023, 0, 6143, 16383]
theorem customhouselaw19_LinearSums.tab10 : rtab .any (opsOf Tryz.f9 10) = customhouselaw19_LinearSums.T10 := by kernel_rfl
theorem customhouselaw19_LinearSums.bits10 : waitsOk customhouselaw19_LinearSums.T10.2 customhouselaw19_LinearSums.B10 = true := by kernel_rfl
def customhouselaw19_LinearSums.T20 : Bool × List (List Nat × List Nat) := (true, [([], []), ([], []), ([0, 1], [0, 1]), ([2], [2]), ([], []), ([], []), ([4, 5], [4, 5]), ([6], [6]), ([3, 7], [3, 7]), ([8], [8]), ([9], [9]), ([9], [9]), ([], []), ([12, 10, 8, 0, 1, 2, 3, 4, 5, 6, 7, 8, 9, 10, 12], [10, 12]), ([11, 13, 0, 1, 2, 3, 4, 5, 6, 7, 8, 9, 10, 11, 12, 13], [11])])
def customhouselaw19_LinearSums.B20 : List Nat := [0, 0, 3, 7, 0, 0, 48, 112, 255, 511, 1023, 1023, 0, 6143, 16383]
theorem customhouselaw19_LinearSums.tab20 : rtab .any (opsOf Tryz.f9 20) = customhouselaw19_LinearSums.T20 := by kernel_rfl
theorem customhouselaw19_LinearSums.bits20 : waitsOk customhouselaw19_LinearSums.T20.2 customhouselaw19_LinearSums.B20 = true := by kernel_rfl
set_option maxHeartbeats 8000000 in
set_option maxRecDepth 100000 in
theorem customhouselaw19_LinearSums.calls (k : Nat) (A0 : Option Addr) (c0 : Nat) (l0 : List (List (S31))) (A1 : Option Addr) (c1 : Nat) (l1 : List (S31)) (A2 : Option Addr) (c2 : Nat) (l2 : List (S31)) (r : Bool) (w : World) (hTab : Tab w) (hr0 : Kd.C (Kd.slice 31 k31) w A0 l0.length l0) (hc0 : l0.length ≤ c0) (hr1 : Kd.C k31 w A1 l1.length l1) (hc1 : l1.length ≤ c1) (hr2 : Kd.C k31 w A2 l2.length l2) (hc2 : l2.length ≤ c2) (h : customhouselaw19_LinearSums.f k l0 l1 l2 = some r) :
    Calls Tryz.prog 9 #[.slice A0 l0.length c0, .slice A1 l1.length c1, .slice A2 l2.length c2] w fun e w' => e = .returned (.bool r) ∧ Below w.heap.size w w' := by
  have hu31 := Tryz.underlying31
  have HTAB := Aside0.mk hTab
  clear hTab
  have HR0 := Aside0.mk hr0
  have HC0 := Aside0.mk hc0
  clear hr0 hc0
  have HR1 := Aside0.mk hr1
  have HC1 := Aside0.mk hc1
  clear hr1 hc1
  have HR2 := Aside0.mk hr2
  have HC2 := Aside0.mk hc2
  clear hr2 hc2
  have HB := Aside0.mk (Below.refl w.heap.size w)
  have H : ((customhouselaw19_head.f).bind fun t459 => ((customhouselaw19_square.f k l0 l1).bind fun t460 => (if t460 = true then ((customhouselaw19_square.f k l0 l2).bind fun t461 => (customhouselaw19_LinearSums.j0 k l0 l1 l2 t459 (!t461))) else (customhouselaw19_LinearSums.j0 k l0 l1 l2 t459 true)))) = some r := h
  clear h
  replace H := Option.bind_eq_some_iff.mp H
  obtain ⟨t459, A40, H⟩ := H
  replace H : ((customhouselaw19_square.f k l0 l1).bind fun t460 => (if t460 = true then ((customhouselaw19_square.f k l0 l2).bind fun t461 => (customhouselaw19_LinearSums.j0 k l0 l1 l2 t459 (!t461))) else (customhouselaw19_LinearSums.j0 k l0 l1 l2 t459 true))) = some r := H
  have A4 := Aside0.mk A40
  clear A40
  have HC5 := Aside0.mk H
  clear H
  go_enter Tryz.func9, Tryz.ntmps9
  go_upto_region 2 with (first | ((with_reducible refine gate_callee (f := 10) rfl ?_); refine goesL_ (some 22) rfl rfl Tryz.func10 (by kernel_rfl) rfl #[] rfl (by (try simp only [List.map_toArray, List.map_cons, List.map_nil]); first | done | rfl | (simp only [List.length_drop, List.length_take]; rfl)) ?_; (with_reducible refine (customhouselaw19_head.calls  t459 _ ?side1 A4.out).mono ?_); (case side1 => exact Tab.below HTAB.out (by repeat (first | (with_reducible first | exact HB.out | apply below_alloc | apply pw_below_drewN | apply below_drew1) | exact HB.out))); rintro e w6 ⟨rfl, hb⟩; refine ⟨_, rfl, ?_⟩; have n0_ := Aside0.mk (below_step (by repeat (first | (with_reducible first | exact HB.out | apply below_alloc | apply pw_below_drewN | apply below_drew1) | exact HB.out)) hb); clear HB; have HB := n0_; clear n0_; (try clear hb); (try clear hb2); (try clear hk); (try clear hi)))
  (try simp only [Act.put, List.setIfInBounds_toArray, List.set_cons_zero, List.set_cons_succ])
  go_cut [32] (fun v32 wc => ∃ (kq : Nat) (x32_4 : Bool), v32 = .bool x32_4 ∧ Aside0 (customhouselaw19_LinearSums.j0 kq l0 l1 l2 t459 x32_4 = some r) ∧ Aside0 (kq ≤ k) ∧ Aside0 (Below w.heap.size w wc))
  case first =>
    have H := HC5.out
    clear HC5
    replace H := Option.bind_eq_some_iff.mp H
    obtain ⟨t460, A70, H⟩ := H
    replace H : (if t460 = true then ((customhouselaw19_square.f k l0 l2).bind fun t461 => (customhouselaw19_LinearSums.j0 k l0 l1 l2 t459 (!t461))) else (customhouselaw19_LinearSums.j0 k l0 l1 l2 t459 true)) = some r := H
    have A7 := Aside0.mk A70
    clear A70
    by_cases c8 : t460 = true
    · subst c8
      have H1 : ((customhouselaw19_square.f k l0 l2).bind fun t461 => (customhouselaw19_LinearSums.j0 k l0 l1 l2 t459 (!t461))) = some r := by rw [if_pos rfl] at H; exact H
      clear H
      have H := H1
      clear H1
      replace H := Option.bind_eq_some_iff.mp H
      obtain ⟨t461, A90, H⟩ := H
      replace H : (customhouselaw19_LinearSums.j0 k l0 l1 l2 t459 (!t461)) = some r := H
      have A9 := Aside0.mk A90
      clear A90
      have H' := Aside0.mk H
      clear H
      go_wp2_with (first | ((with_reducible refine gate_callee (f := 15) rfl ?_); refine goesL_ (some 25) rfl rfl Tryz.func15 (by kernel_rfl) rfl #[.slice A0 l0.length c0, .slice A1 l1.length c1] rfl (by (try simp only [List.map_toArray, List.map_cons, List.map_nil]); first | done | rfl | (simp only [List.length_drop, List.length_take]; rfl)) ?_; (with_reducible refine (customhouselaw19_square.calls k _ _ l0 _ _ l1 true _ ?side5 ?side1 ?side2 ?side3 ?side4 A7.out).mono ?_); (case side1 => repeat (first | exact (Kd.C_below HR0.out HB.out) | (with_reducible refine Kd.C_alloc ?_ _) | (with_reducible refine Kd.C_drewN ?_ _) | (with_reducible refine Kd.C_drew ?_))); (case side2 => exact HC0.out); (case side3 => repeat (first | exact (Kd.C_below HR1.out HB.out) | (with_reducible refine Kd.C_alloc ?_ _) | (with_reducible refine Kd.C_drewN ?_ _) | (with_reducible refine Kd.C_drew ?_))); (case side4 => exact HC1.out); (case side5 => exact Tab.below HTAB.out (by repeat (first | (with_reducible first | exact HB.out | apply below_alloc | apply pw_below_drewN | apply below_drew1) | exact HB.out))); rintro e w10 ⟨rfl, hb⟩; refine ⟨_, rfl, ?_⟩; have n0_ := Aside0.mk (below_step (by repeat (first | (with_reducible first | exact HB.out | apply below_alloc | apply pw_below_drewN | apply below_drew1) | exact HB.out)) hb); clear HB; have HB := n0_; clear n0_; (try clear hb); (try clear hb2); (try clear hk); (try clear hi)) | (go_at_call 15; (with_reducible refine (customhouselaw19_square.calls k _ _ l0 _ _ l2 t461 _ ?side5 ?side1 ?side2 ?side3 ?side4 A9.out).mono ?_); (case side1 => repeat (first | exact (Kd.C_below HR0.out HB.out) | (with_reducible refine Kd.C_alloc ?_ _) | (with_reducible refine Kd.C_drewN ?_ _) | (with_reducible refine Kd.C_drew ?_))); (case side2 => exact HC0.out); (case side3 => repeat (first | exact (Kd.C_below HR2.out HB.out) | (with_reducible refine Kd.C_alloc ?_ _) | (with_reducible refine Kd.C_drewN ?_ _) | (with_reducible refine Kd.C_drew ?_))); (case side4 => exact HC2.out); (case side5 => exact Tab.below HTAB.out (by repeat (first | (with_reducible first | exact HB.out | apply below_alloc | apply pw_below_drewN | apply below_drew1) | exact HB.out))); rintro e w11 ⟨rfl, hb⟩; have n0_ := Aside0.mk (below_step (by repeat (first | (with_reducible first | exact HB.out | apply below_alloc | apply pw_below_drewN | apply below_drew1) | exact HB.out)) hb); clear HB; have HB := n0_; clear n0_; (try clear hb); (try clear hb2); (try clear hk); (try clear hi)))
      go_meet
      case rel => exact ⟨_, (!t461), (by first | rfl | (simp; done) | (simp [*]; done)), H', ⟨by first | omega | exact Nat.le_refl _⟩, ⟨by repeat (first | (with_reducible first | exact HB.out | apply below_alloc | apply pw_below_drewN | apply below_drew1) | exact HB.out)⟩⟩
    · replace c8 := Bool.eq_false_iff.mpr c8
      subst c8
      have H1 : (customhouselaw19_LinearSums.j0 k l0 l1 l2 t459 true) = some r := by rw [if_neg (show ¬ (false = true) by decide)] at H; exact H
      clear H
      have H := H1
      clear H1
      have H' := Aside0.mk H
      clear H
      go_wp2_with (first | ((with_reducible refine gate_callee (f := 15) rfl ?_); refine goesL_ (some 25) rfl rfl Tryz.func15 (by kernel_rfl) rfl #[.slice A0 l0.length c0, .slice A1 l1.length c1] rfl (by (try simp only [List.map_toArray, List.map_cons, List.map_nil]); first | done | rfl | (simp only [List.length_drop, List.length_take]; rfl)) ?_; (with_reducible refine (customhouselaw19_square.calls k _ _ l0 _ _ l1 false _ ?side5 ?side1 ?side2 ?side3 ?side4 A7.out).mono ?_); (case side1 => repeat (first | exact (Kd.C_below HR0.out HB.out) | (with_reducible refine Kd.C_alloc ?_ _) | (with_reducible refine Kd.C_drewN ?_ _) | (with_reducible refine Kd.C_drew ?_))); (case side2 => exact HC0.out); (case side3 => repeat (first | exact (Kd.C_below HR1.out HB.out) | (with_reducible refine Kd.C_alloc ?_ _) | (with_reducible refine Kd.C_drewN ?_ _) | (with_reducible refine Kd.C_drew ?_))); (case side4 => exact HC1.out); (case side5 => exact Tab.below HTAB.out (by repeat (first | (with_reducible first | exact HB.out | apply below_alloc | apply pw_below_drewN | apply below_drew1) | exact HB.out))); rintro e w12 ⟨rfl, hb⟩; refine ⟨_, rfl, ?_⟩; have n0_ := Aside0.mk (below_step (by repeat (first | (with_reducible first | exact HB.out | apply below_alloc | apply pw_below_drewN | apply below_drew1) | exact HB.out)) hb); clear HB; have HB := n0_; clear n0_; (try clear hb); (try clear hb2); (try clear hk); (try clear hi)))
      go_meet
      case rel => exact ⟨_, (true), (by first | rfl | (simp; done) | (simp [*]; done)), H', ⟨by first | omega | exact Nat.le_refl _⟩, ⟨by repeat (first | (with_reducible first | exact HB.out | apply below_alloc | apply pw_below_drewN | apply below_drew1) | exact HB.out)⟩⟩
  case rest =>
    clear HC5
    try clear c1
    try clear c2
    try clear p2
    try clear c8
    try clear c9
    try clear c10
    obtain ⟨kq, x32_4, rfl, HA, HJ4, HB⟩ := hcut
    cases kq with
    | zero => exact absurd HA.out (by simp [customhouselaw19_LinearSums.j0])
    | succ kj4 =>
      have H := HA.out
      clear HA
      simp only [customhouselaw19_LinearSums.j0] at H
      by_cases c13 : x32_4 = true
      · subst c13
        have H1 : (some t459) = some r := by rw [if_pos rfl] at H; exact H
        clear H
        have H := H1
        clear H1
        obtain rfl := Option.some.inj H
        go_wp2
        go_ret
        exact ⟨by first | rfl | (simp [errW_none, errW_some] <;> rfl) | (simp [*, errW_none, errW_some] <;> rfl), by repeat (first | (with_reducible first | exact HB.out | apply below_alloc | apply pw_below_drewN | apply below_drew1) | exact HB.out)⟩
      · replace c13 := Bool.eq_false_iff.mpr c13
        subst c13
        have H1 : ((linear_Solve.f l0 l1).bind fun bt462 => ((linear_Solve.f l0 l2).bind fun bt466 => (customhouselaw19_LinearSums.l0 kj4 l0 l1 l2 t459 ([] : List (S31)) bt462.1 bt462.2 bt466.1 bt466.2 0))) = some r := by rw [if_neg (show ¬ (false = true) by decide)] at H; exact H
        clear H
        have H := H1
        clear H1
        replace H := Option.bind_eq_some_iff.mp H
        obtain ⟨⟨t462, t463⟩, A140, H⟩ := H
        replace H : ((linear_Solve.f l0 l2).bind fun bt466 => (customhouselaw19_LinearSums.l0 kj4 l0 l1 l2 t459 ([] : List (S31)) t462 t463 bt466.1 bt466.2 0)) = some r := H
        have A14 := Aside0.mk A140
        clear A140
        replace H := Option.bind_eq_some_iff.mp H
        obtain ⟨⟨t466, t467⟩, A150, H⟩ := H
        replace H : (customhouselaw19_LinearSums.l0 kj4 l0 l1 l2 t459 ([] : List (S31)) t462 t463 t466 t467 0) = some r := H
        have A15 := Aside0.mk A150
        clear A150
        have H' := Aside0.mk H
        clear H
        go_wp2_with (first | ((with_reducible refine gate_callee (f := 12) rfl ?_); refine goesL_ (some 37) rfl rfl Tryz.func12 (by kernel_rfl) rfl #[.slice A0 l0.length c0, .slice A1 l1.length c1] rfl (by (try simp only [List.map_toArray, List.map_cons, List.map_nil]); first | done | rfl | (simp only [List.length_drop, List.length_take]; rfl)) ?_; (with_reducible refine (linear_Solve.calls _ _ l0 _ _ l1 t462 t463 _ ?side5 ?side1 ?side2 ?side3 ?side4 A14.out).mono ?_); (case side1 => repeat (first | exact (Kd.C_below HR0.out HB.out) | (with_reducible refine Kd.C_alloc ?_ _) | (with_reducible refine Kd.C_drewN ?_ _) | (with_reducible refine Kd.C_drew ?_))); (case side2 => exact HC0.out); (case side3 => repeat (first | exact (Kd.C_below HR1.out HB.out) | (with_reducible refine Kd.C_alloc ?_ _) | (with_reducible refine Kd.C_drewN ?_ _) | (with_reducible refine Kd.C_drew ?_))); (case side4 => exact HC1.out); (case side5 => exact Tab.below HTAB.out (by repeat (first | (with_reducible first | exact HB.out | apply below_alloc | apply pw_below_drewN | apply below_drew1) | exact HB.out))); rintro e w16 ⟨v464, rfl, ho0, hb⟩; refine ⟨_, rfl, ?_⟩; have n0_ := Aside0.mk (Kd.R_lower ho0 (below_size (by repeat (first | (with_reducible first | exact HB.out | apply below_alloc | apply pw_below_drewN | apply below_drew1) | exact HB.out)))); have n1_ := Aside0.mk (below_step (by repeat (first | (with_reducible first | exact HB.out | apply below_alloc | apply pw_below_drewN | apply below_drew1) | exact HB.out)) hb); clear HB; have HO465 := n0_; have HB := n1_; clear n0_ n1_; (try clear hb); (try clear hb2); (try clear hk); (try clear hi); (try clear ho0)) | ((with_reducible refine gate_callee (f := 12) rfl ?_); refine goesL_ (some 43) rfl rfl Tryz.func12 (by kernel_rfl) rfl #[.slice A0 l0.length c0, .slice A2 l2.length c2] rfl (by (try simp only [List.map_toArray, List.map_cons, List.map_nil]); first | done | rfl | (simp only [List.length_drop, List.length_take]; rfl)) ?_; (with_reducible refine (linear_Solve.calls _ _ l0 _ _ l2 t466 t467 _ ?side5 ?side1 ?side2 ?side3 ?side4 A15.out).mono ?_); (case side1 => repeat (first | exact (Kd.C_below HR0.out HB.out) | (with_reducible refine Kd.C_alloc ?_ _) | (with_reducible refine Kd.C_drewN ?_ _) | (with_reducible refine Kd.C_drew ?_))); (case side2 => exact HC0.out); (case side3 => repeat (first | exact (Kd.C_below HR2.out HB.out) | (with_reducible refine Kd.C_alloc ?_ _) | (with_reducible refine Kd.C_drewN ?_ _) | (with_reducible refine Kd.C_drew ?_))); (case side4 => exact HC2.out); (case side5 => exact Tab.below HTAB.out (by repeat (first | (with_reducible first | exact HB.out | apply below_alloc | apply pw_below_drewN | apply below_drew1) | exact HB.out))); rintro e w17 ⟨v468, rfl, ho0, hb⟩; refine ⟨_, rfl, ?_⟩; have n0_ := Aside0.mk (Kd.R_elder' (by (with_reducible repeat (first | apply Kd.R_alloc | apply Kd.R_drewN | apply Kd.R_drew)); exact HO465.out) (Kd.R_base ho0) hb); have n1_ := Aside0.mk (Kd.R_lower (Kd.R_new' ho0 (Kd.R_lt (by (with_reducible repeat (first | apply Kd.R_alloc | apply Kd.R_drewN | apply Kd.R_drew)); exact HO465.out))) (below_size (by repeat (first | (with_reducible first | exact HB.out | apply below_alloc | apply pw_below_drewN | apply below_drew1) | exact HB.out)))); have n2_ := Aside0.mk (below_step (by repeat (first | (with_reducible first | exact HB.out | apply below_alloc | apply pw_below_drewN | apply below_drew1) | exact HB.out)) hb); clear HO465; clear HB; have HO465 := n0_; have HO469 := n1_; have HB := n2_; clear n0_ n1_ n2_; (try clear hb); (try clear hb2); (try clear hk); (try clear hi); (try clear ho0)))
        go_loopg [8, 14] kj4 (fun kq v8 v14 w' => ∃ (x8_2 : List (S31)) (x14_2 : Int), v14 = .int .i64 x14_2 ∧ Aside0 (customhouselaw19_LinearSums.l0 kq l0 l1 l2 t459 x8_2 t462 t463 t466 t467 x14_2 = some r) ∧ Aside0 (kq ≤ kj4) ∧ Aside0 (Kd.R k31 31 w' w.heap.size (fun k_ => some k_ ≠ (v464 : Value).ownBlock ∧ some k_ ≠ (v468 : Value).ownBlock) v8 x8_2) ∧ Aside0 (Kd.R k31 31 w' w.heap.size (fun k_ => some k_ ≠ (v8 : Value).ownBlock ∧ some k_ ≠ (v468 : Value).ownBlock) v464 t462) ∧ Aside0 (Kd.R k31 31 w' w.heap.size (fun k_ => some k_ ≠ (v8 : Value).ownBlock ∧ some k_ ≠ (v464 : Value).ownBlock) v468 t466) ∧ Aside0 (Below w.heap.size w w'))
        case atStart => exact ⟨(([] : List (S31))), (0), (by first | rfl | (simp; done) | (simp [*]; done)), H', ⟨Nat.le_refl _⟩, ⟨by first | exact Kd.R_nil _ _ _ _ _ | exact Kd.N_nil _ _ _ _ _ | exact Kd.V_nil _ _ _ _ _ | exact Kd.Q_nil _ _ _ _ _ | exact Kd.S_nil _ _ _ _ _⟩, ⟨by (with_reducible repeat (first | apply Kd.R_alloc | apply Kd.R_drewN | apply Kd.R_drew)); exact Kd.R_mono HO465.out (fun _ hk => ⟨(by simp [Value.ownBlock]), hk.2⟩)⟩, ⟨by (with_reducible repeat (first | apply Kd.R_alloc | apply Kd.R_drewN | apply Kd.R_drew)); exact Kd.R_mono HO469.out (fun _ hk => ⟨(by simp [Value.ownBlock]), hk.2⟩)⟩, ⟨by repeat (first | (with_reducible first | exact HB.out | apply below_alloc | apply pw_below_drewN | apply below_drew1) | exact HB.out)⟩⟩
        case round =>
          clear H'
          try clear c1
          try clear c2
          try clear p2
          try clear c8
          try clear c9
          try clear c10
          try clear c12
          try clear c13
          try clear c15
          try clear p2
          obtain ⟨x8_2, x14_2, rfl, HA, HK2, HO_8, HO_10, HO_12, HB⟩ := hrel
          cases gk with
          | zero => exact absurd HA.out (by simp [customhouselaw19_LinearSums.l0])
          | succ k2 =>
            have H := HA.out
            clear HA
            simp only [customhouselaw19_LinearSums.l0] at H
            by_cases c18 : x14_2 < (l1.length : Int)
            · rw [if_pos c18] at H
              have c18b0 : decide (x14_2 < (l1.length : Int)) = true := decide_eq_true c18
              clear c18
              by_cases c19 : 0 ≤ x14_2
              · rw [if_pos c19] at H
                have c19b0 : decide (0 ≤ x14_2) = true := decide_eq_true c19
                clear c19
                by_cases c20 : x14_2 < (l2.length : Int)
                · rw [if_pos c20] at H
                  have c20b0 : decide (x14_2 < (l2.length : Int)) = true := decide_eq_true c20
                  clear c20
                  replace H := Option.bind_eq_some_iff.mp H
                  obtain ⟨⟨t472, t473, t474, t475⟩, A210, H⟩ := H
                  replace H : (if t475 = 0 then (if x8_2.length < 3518437208883 then (customhouselaw19_LinearSums.l0 k2 l0 l1 l2 t459 (x8_2 ++ [(⟨t472, t473, t474⟩ : S31)]) t462 t463 t466 t467 (wrap64 (x14_2 + 1))) else (none)) else (some t459)) = some r := H
                  have A21 := Aside0.mk A210
                  clear A210
                  by_cases c22 : t475 = 0
                  · rw [if_pos c22] at H
                    have c22b0 : (t475 == 0) = true := beq_iff_eq.mpr c22
                    have c22b1 : (t475 != 0) = false := bne_eq_false_iff_eq.mpr c22
                    clear c22
                    by_cases c23 : x8_2.length < 3518437208883
                    · rw [if_pos c23] at H
                      have LMc23 := Aside0.mk c23
                      clear c23
                      obtain ⟨y477, hy477⟩ : ∃ y_ : List (S31), y_ = (x8_2 ++ [(⟨t472, t473, t474⟩ : S31)]) := ⟨_, rfl⟩
                      replace H : (customhouselaw19_LinearSums.l0 k2 l0 l1 l2 t459 y477 t462 t463 t466 t467 (wrap64 (x14_2 + 1))) = some r := by first | (rw [hy477]; with_reducible exact H) | (have H2_ := (Option.bind_some _ _).symm.trans H; rw [hy477]; with_reducible exact H2_) | (have H2_ := (Option.bind_some _ _).symm.trans H; with_reducible exact H2_) | with_reducible exact H | (rw [hy477]; exact H) | exact H
                      have Ny477 := Aside0.mk hy477
                      clear hy477
                      have H' := Aside0.mk H
                      clear H
                      try go_wp2
                      have n0_ := Aside0.mk (Kd.R_drew HO_8.out)
                      have n1_ := Aside0.mk (Kd.R_drew HO_10.out)
                      have n2_ := Aside0.mk (Kd.R_drew HO_12.out)
                      have n3_ := Aside0.mk (below_drew1 HB.out)
                      clear HO_8
                      clear HO_10
                      clear HO_12
                      clear HB
                      have HO_8 := n0_
                      have HO_10 := n1_
                      have HO_12 := n2_
                      have HB := n3_
                      clear n0_ n1_ n2_ n3_
                      have p470 : 0 ≤ (x14_2 : Int) := of_decide_eq_true (by first | (with_reducible assumption) | assumption)
                      have q470 : x14_2 < (l1.length : Int) := of_decide_eq_true (by first | (with_reducible assumption) | assumption)
                      obtain ⟨ad470, e470, hx470_0, hx470_1, hx470_2⟩ := at_T31 HR1.out x14_2 p470 q470
                      have hw470_2 := hx470_2
                      have hw470_1 := hx470_1
                      have hw470_0 := hx470_0
                      cases e470
                      replace hx470_0 := (HB.out.cell (World.block_lt_of_cell? w _ hx470_0)).trans hx470_0
                      replace hx470_1 := (HB.out.cell (World.block_lt_of_cell? w _ hx470_1)).trans hx470_1
                      replace hx470_2 := (HB.out.cell (World.block_lt_of_cell? w _ hx470_2)).trans hx470_2
                      replace p470 := eq_true p470
                      replace q470 := eq_true q470
                      have p471 : 0 ≤ (x14_2 : Int) := of_decide_eq_true (by first | (with_reducible assumption) | assumption)
                      have q471 : x14_2 < (l2.length : Int) := of_decide_eq_true (by first | (with_reducible assumption) | assumption)
                      obtain ⟨ad471, e471, hx471_0, hx471_1, hx471_2⟩ := at_T31 HR2.out x14_2 p471 q471
                      have hw471_2 := hx471_2
                      have hw471_1 := hx471_1
                      have hw471_0 := hx471_0
                      cases e471
                      replace hx471_0 := (HB.out.cell (World.block_lt_of_cell? w _ hx471_0)).trans hx471_0
                      replace hx471_1 := (HB.out.cell (World.block_lt_of_cell? w _ hx471_1)).trans hx471_1
                      replace hx471_2 := (HB.out.cell (World.block_lt_of_cell? w _ hx471_2)).trans hx471_2
                      replace p471 := eq_true p471
                      replace q471 := eq_true q471
                      refine start_ (n := 15) (S := fun w' => w'.cell? (ad470.add ((x14_2).toNat * 3)) = some (.bool ((rd_T31 l1 x14_2).f0)) ∧ w'.cell? ⟨(ad470.add ((x14_2).toNat * 3)).block, (ad470.add ((x14_2).toNat * 3)).off + 1, none⟩ = some (.string ((rd_T31 l1 x14_2).f1)) ∧ w'.cell? ⟨(ad470.add ((x14_2).toNat * 3)).block, (ad470.add ((x14_2).toNat * 3)).off + 2, none⟩ = some (.string ((rd_T31 l1 x14_2).f2)) ∧ w'.cell? (ad471.add ((x14_2).toNat * 3)) = some (.bool ((rd_T31 l2 x14_2).f0)) ∧ w'.cell? ⟨(ad471.add ((x14_2).toNat * 3)).block, (ad471.add ((x14_2).toNat * 3)).off + 1, none⟩ = some (.string ((rd_T31 l2 x14_2).f1)) ∧ w'.cell? ⟨(ad471.add ((x14_2).toNat * 3)).block, (ad471.add ((x14_2).toNat * 3)).off + 2, none⟩ = some (.string ((rd_T31 l2 x14_2).f2))) (ds := []) #[false, false, false, false, false, false, false, false, false, false, false, false, false, false, false] (by kernel_rfl) rfl rfl ⟨((HB.out.cell (World.block_lt_of_cell? w _ hw470_0)).trans hw470_0), ((HB.out.cell (World.block_lt_of_cell? w _ hw470_1)).trans hw470_1), ((HB.out.cell (World.block_lt_of_cell? w _ hw470_2)).trans hw470_2), ((HB.out.cell (World.block_lt_of_cell? w _ hw471_0)).trans hw471_0), ((HB.out.cell (World.block_lt_of_cell? w _ hw471_1)).trans hw471_1), ((HB.out.cell (World.block_lt_of_cell? w _ hw471_2)).trans hw471_2)⟩ (fun hHeld => ?_); refine with_tabW customhouselaw19_LinearSums.tab10 customhouselaw19_LinearSums.bits10 (fun HT_ HW_ => ?_)
                      generalize wr.drew = w24 at HO_8 HO_10 HO_12 HB hx470_0 hx470_1 hx470_2 hx471_0 hx471_1 hx471_2 hHeld ⊢
                      refine pure_ (i := 0) (N := some 53) (v := ?_) (a' := ?_) #[true, false, false, false, false, false, false, false, false, false, false, false, false, false, false] rfl rfl (any_of HT_.out (by kernel_rfl)) (fun _ _ _ h => h) (Or.inl ⟨by rfl, ?_⟩) ?_ ?_
                      rotate_left
                      · intro w'
                        go_simp
                        with_reducible rfl
                      rotate_left
                      · simp only [Act.put, List.setIfInBounds_toArray, List.set_cons_zero, List.set_cons_succ, i64_w, i32_w]
                        rfl
                      refine pure_ (i := 1) (N := some 54) (v := ?_) (a' := ?_) #[true, true, false, false, false, false, false, false, false, false, false, false, false, false, false] rfl rfl (any_of HT_.out (by kernel_rfl)) (fun _ _ _ h => h) (Or.inl ⟨by rfl, ?_⟩) ?_ ?_
                      rotate_left
                      · intro w'
                        go_simp
                        with_reducible rfl
                      rotate_left
                      · simp only [Act.put, List.setIfInBounds_toArray, List.set_cons_zero, List.set_cons_succ, i64_w, i32_w]
                        rfl
                      refine pure_ (i := 2) (N := some 55) (v := ?_) (a' := ?_) #[true, true, true, false, false, false, false, false, false, false, false, false, false, false, false] rfl rfl (any_of HT_.out (by kernel_rfl)) (fun _ _ _ h => h) (Or.inl ⟨by rfl, ?_⟩) ?_ ?_
                      rotate_left
                      · intro w'
                        go_simp
                        with_reducible rfl
                      rotate_left
                      · simp only [Act.put, List.setIfInBounds_toArray, List.set_cons_zero, List.set_cons_succ, i64_w, i32_w]
                        rfl
                      refine pure_ (i := 4) (N := some 57) (v := ?_) (a' := ?_) #[true, true, true, false, true, false, false, false, false, false, false, false, false, false, false] rfl rfl (any_of HT_.out (by kernel_rfl)) (fun _ _ _ h => h) (Or.inl ⟨by rfl, ?_⟩) ?_ ?_
                      rotate_left
                      · intro w'
                        go_simp
                        with_reducible rfl
                      rotate_left
                      · simp only [Act.put, List.setIfInBounds_toArray, List.set_cons_zero, List.set_cons_succ, i64_w, i32_w]
                        rfl
                      refine pure_ (i := 5) (N := some 58) (v := ?_) (a' := ?_) #[true, true, true, false, true, true, false, false, false, false, false, false, false, false, false] rfl rfl (any_of HT_.out (by kernel_rfl)) (fun _ _ _ h => h) (Or.inl ⟨by rfl, ?_⟩) ?_ ?_
                      rotate_left
                      · intro w'
                        go_simp
                        with_reducible rfl
                      rotate_left
                      · simp only [Act.put, List.setIfInBounds_toArray, List.set_cons_zero, List.set_cons_succ, i64_w, i32_w]
                        rfl
                      refine pure_ (i := 6) (N := some 59) (v := ?_) (a' := ?_) #[true, true, true, false, true, true, true, false, false, false, false, false, false, false, false] rfl rfl (any_of HT_.out (by kernel_rfl)) (fun _ _ _ h => h) (Or.inl ⟨by rfl, ?_⟩) ?_ ?_
                      rotate_left
                      · intro w'
                        go_simp
                        with_reducible rfl
                      rotate_left
                      · simp only [Act.put, List.setIfInBounds_toArray, List.set_cons_zero, List.set_cons_succ, i64_w, i32_w]
                        rfl
                      refine take_ (i := 3) (N := some 56) (v := ?_) (a' := ?_) #[true, true, true, true, true, true, true, false, false, false, false, false, false, false, false] rfl rfl (take_ofW HT_.out HW_.out (by kernel_rfl)) (fun _ _ _ h => h) (Or.inl ⟨by rfl, ?_⟩) hHeld ?_ ?_
                      rotate_left
                      · rintro w' ⟨s0, s1, s2, s3, s4, s5⟩
                        go_simp
                        with_reducible rfl
                      rotate_left
                      · simp only [Act.put, List.setIfInBounds_toArray, List.set_cons_zero, List.set_cons_succ, i64_w, i32_w]
                        rfl
                      refine take_ (i := 7) (N := some 60) (v := ?_) (a' := ?_) #[true, true, true, true, true, true, true, true, false, false, false, false, false, false, false] rfl rfl (take_ofW HT_.out HW_.out (by kernel_rfl)) (fun _ _ _ h => h) (Or.inl ⟨by rfl, ?_⟩) hHeld ?_ ?_
                      rotate_left
                      · rintro w' ⟨s0, s1, s2, s3, s4, s5⟩
                        go_simp
                        with_reducible rfl
                      rotate_left
                      · simp only [Act.put, List.setIfInBounds_toArray, List.set_cons_zero, List.set_cons_succ, i64_w, i32_w]
                        rfl
                      refine join_ (σ := Nat) 2 #[true, true, true, true, true, true, true, true, true, true, true, true, true, false, false] (fun s_ => [(61, .tuple #[.agg #[.bool t472, .string t473, .string t474], .int .i64 t475]), (15, .pointer (some ⟨s_, 0, none⟩)), (52, .tuple #[.agg #[.bool t472, .string t473, .string t474], .int .i64 t475]), (62, .agg #[.bool t472, .string t473, .string t474]), (63, .int .i64 t475)]) (fun s_ w' => (w'.cell? (ad470.add ((x14_2).toNat * 3)) = some (.bool ((rd_T31 l1 x14_2).f0)) ∧ w'.cell? ⟨(ad470.add ((x14_2).toNat * 3)).block, (ad470.add ((x14_2).toNat * 3)).off + 1, none⟩ = some (.string ((rd_T31 l1 x14_2).f1)) ∧ w'.cell? ⟨(ad470.add ((x14_2).toNat * 3)).block, (ad470.add ((x14_2).toNat * 3)).off + 2, none⟩ = some (.string ((rd_T31 l1 x14_2).f2)) ∧ w'.cell? (ad471.add ((x14_2).toNat * 3)) = some (.bool ((rd_T31 l2 x14_2).f0)) ∧ w'.cell? ⟨(ad471.add ((x14_2).toNat * 3)).block, (ad471.add ((x14_2).toNat * 3)).off + 1, none⟩ = some (.string ((rd_T31 l2 x14_2).f1)) ∧ w'.cell? ⟨(ad471.add ((x14_2).toNat * 3)).block, (ad471.add ((x14_2).toNat * 3)).off + 2, none⟩ = some (.string ((rd_T31 l2 x14_2).f2))) ∧ (Kd.R k31 31 w' w.heap.size (fun k_ => some k_ ≠ (v468 : Value).ownBlock ∧ some k_ ≠ (u8 : Value).ownBlock ∧ k_ ≠ s_) v464 t462) ∧ (Kd.R k31 31 w' w.heap.size (fun k_ => some k_ ≠ (v464 : Value).ownBlock ∧ some k_ ≠ (u8 : Value).ownBlock ∧ k_ ≠ s_) v468 t466) ∧ (Kd.R k31 31 w' w.heap.size (fun k_ => some k_ ≠ (v464 : Value).ownBlock ∧ some k_ ≠ (v468 : Value).ownBlock ∧ k_ ≠ s_) u8 x8_2) ∧ (w'.heap[s_]? = some (.cells #[.bool false, .string (⟨#[]⟩ : ByteArray), .string (⟨#[]⟩ : ByteArray)] 31 (0, 0))) ∧ (w.heap.size ≤ s_) ∧ (w.heap.size ≤ s_) ∧ (Below w.heap.size w w')) ?_ ?_
                      rotate_left
                      · intro hCont
                        refine two_ (i := 8) (j := 12) (Ni := some 61) (Nj := some 15) #[true, true, true, true, true, true, true, true, true, false, false, false, false, false, false] #[true, true, true, true, true, true, true, true, false, false, false, false, true, false, false] rfl rfl rfl rfl (two_of HT_.out (by kernel_rfl)) (by decide) (by decide) (fun K hK => ?_) (fun K hK => ?_)
                        · skip
                          refine goes_ Tryz.func22 (by kernel_rfl) rfl #[.agg #[.bool ((rd_T31 l1 x14_2).f0), .string ((rd_T31 l1 x14_2).f1), .string ((rd_T31 l1 x14_2).f2)], .agg #[.bool ((rd_T31 l2 x14_2).f0), .string ((rd_T31 l2 x14_2).f1), .string ((rd_T31 l2 x14_2).f2)]] (by rfl) rfl rfl (by (try simp only [List.map_toArray, List.map_cons, List.map_nil]); first | done | rfl | (simp only [List.length_drop, List.length_take]; rfl)) ?_
                          with_reducible refine (ratio_Add.calls ((rd_T31 l1 x14_2).f0) ((rd_T31 l1 x14_2).f1) ((rd_T31 l1 x14_2).f2) ((rd_T31 l2 x14_2).f0) ((rd_T31 l2 x14_2).f1) ((rd_T31 l2 x14_2).f2) t472 t473 t474 t475 _ ?side1 A21.out).mono ?_
                          (case side1 => exact Tab.below HTAB.out (by repeat (first | (with_reducible first | exact HB.out | apply below_alloc | apply pw_below_drewN | apply below_drew1) | exact HB.out)))
                          rintro e w25 ⟨rfl, hb⟩
                          refine ⟨_, rfl, ?_⟩
                          have n0_ := Aside0.mk (Kd.R_below (by (with_reducible repeat (first | apply Kd.R_alloc | apply Kd.R_drewN | apply Kd.R_drew)); exact HO_8.out) hb)
                          have n1_ := Aside0.mk (Kd.R_below (by (with_reducible repeat (first | apply Kd.R_alloc | apply Kd.R_drewN | apply Kd.R_drew)); exact HO_10.out) hb)
                          have n2_ := Aside0.mk (Kd.R_below (by (with_reducible repeat (first | apply Kd.R_alloc | apply Kd.R_drewN | apply Kd.R_drew)); exact HO_12.out) hb)
                          have n3_ := Aside0.mk (below_step (by repeat (first | (with_reducible first | exact HB.out | apply below_alloc | apply pw_below_drewN | apply below_drew1) | exact HB.out)) hb)
                          clear HO_8
                          clear HO_10
                          clear HO_12
                          clear HB
                          have HO_8 := n0_
                          have HO_10 := n1_
                          have HO_12 := n2_
                          have HB := n3_
                          clear n0_ n1_ n2_ n3_
                          (try clear hb)
                          (try clear hb2)
                          (try clear hk)
                          (try clear hi)
                          refine hK.out _ _ ⟨((HB.out.cell (World.block_lt_of_cell? w _ hw470_0)).trans hw470_0), ((HB.out.cell (World.block_lt_of_cell? w _ hw470_1)).trans hw470_1), ((HB.out.cell (World.block_lt_of_cell? w _ hw470_2)).trans hw470_2), ((HB.out.cell (World.block_lt_of_cell? w _ hw471_0)).trans hw471_0), ((HB.out.cell (World.block_lt_of_cell? w _ hw471_1)).trans hw471_1), ((HB.out.cell (World.block_lt_of_cell? w _ hw471_2)).trans hw471_2)⟩ (fun hHeld => ?_)
                          clear hK K
                          refine norm_ (a' := ?_) ?_ ?_
                          rotate_left
                          · show Act.put _ (some 61) _ = _
                            simp only [Act.put, List.setIfInBounds_toArray, List.set_cons_zero, List.set_cons_succ, i64_w, i32_w]
                            rfl
                          refine pure_ (i := 9) (N := some 52) (v := ?_) (a' := ?_) #[true, true, true, true, true, true, true, true, true, true, false, false, false, false, false] rfl rfl (any_of HT_.out (by kernel_rfl)) (fun _ _ _ h => h) (Or.inl ⟨by rfl, ?_⟩) ?_ ?_
                          rotate_left
                          · intro w'
                            go_simp
                            with_reducible rfl
                          rotate_left
                          · simp only [Act.put, List.setIfInBounds_toArray, List.set_cons_zero, List.set_cons_succ, i64_w, i32_w]
                            rfl
                          refine pure_ (i := 10) (N := some 62) (v := ?_) (a' := ?_) #[true, true, true, true, true, true, true, true, true, true, true, false, false, false, false] rfl rfl (any_of HT_.out (by kernel_rfl)) (fun _ _ _ h => h) (Or.inl ⟨by rfl, ?_⟩) ?_ ?_
                          rotate_left
                          · intro w'
                            go_simp
                            with_reducible rfl
                          rotate_left
                          · simp only [Act.put, List.setIfInBounds_toArray, List.set_cons_zero, List.set_cons_succ, i64_w, i32_w]
                            rfl
                          refine pure_ (i := 11) (N := some 63) (v := ?_) (a' := ?_) #[true, true, true, true, true, true, true, true, true, true, true, true, false, false, false] rfl rfl (any_of HT_.out (by kernel_rfl)) (fun _ _ _ h => h) (Or.inl ⟨by rfl, ?_⟩) ?_ ?_
                          rotate_left
                          · intro w'
                            go_simp
                            with_reducible rfl
                          rotate_left
                          · simp only [Act.put, List.setIfInBounds_toArray, List.set_cons_zero, List.set_cons_succ, i64_w, i32_w]
                            rfl
                          refine one_ (i := 12) (N := some 15) #[true, true, true, true, true, true, true, true, true, true, true, true, true, false, false] rfl rfl (one_of HT_.out (by kernel_rfl)) (by decide) (fun K hK => ?_)
                          refine box_step ?hg (N := 15) ?hd (cs := #[.bool false, .string (⟨#[]⟩ : ByteArray), .string (⟨#[]⟩ : ByteArray)]) (t := 31) ?hr ?_; (case hd => rfl); (case hg => rfl); (case hr => first | (go_simp; done) | (go_simp; rfl))
                          intro gb476 hg w26 hbox hb
                          have n0_ := Aside0.mk (Kd.R_below (Kd.R_elderB (by (with_reducible repeat (first | apply Kd.R_alloc | apply Kd.R_drewN | apply Kd.R_drew)); exact HO_8.out) gb476 (Nat.le_of_eq hg.symm)) hb)
                          have n1_ := Aside0.mk (Kd.R_below (Kd.R_elderB (by (with_reducible repeat (first | apply Kd.R_alloc | apply Kd.R_drewN | apply Kd.R_drew)); exact HO_10.out) gb476 (Nat.le_of_eq hg.symm)) hb)
                          have n2_ := Aside0.mk (Kd.R_below (Kd.R_elderB (by (with_reducible repeat (first | apply Kd.R_alloc | apply Kd.R_drewN | apply Kd.R_drew)); exact HO_12.out) gb476 (Nat.le_of_eq hg.symm)) hb)
                          have n3_ := Aside0.mk (below_step (by repeat (first | (with_reducible first | exact HB.out | apply below_alloc | apply pw_below_drewN | apply below_drew1) | exact HB.out)) hb)
                          have n4_ := Aside0.mk (hbox)
                          have n5_ := Aside0.mk ((by rw [hg]; exact (below_size (by repeat (first | (with_reducible first | exact HB.out | apply below_alloc | apply pw_below_drewN | apply below_drew1) | exact HB.out))) : w.heap.size ≤ gb476))
                          have n6_ := Aside0.mk ((by rw [hg]; exact (below_size (by repeat (first | (with_reducible first | exact HB.out | apply below_alloc | apply pw_below_drewN | apply below_drew1) | exact HB.out))) : w.heap.size ≤ gb476))
                          clear HO_8
                          clear HO_10
                          clear HO_12
                          clear HB
                          have HO_8 := n0_
                          have HO_10 := n1_
                          have HO_12 := n2_
                          have HB := n3_
                          have BK476 := n4_
                          have GW476 := n5_
                          have GE476 := n6_
                          clear n0_ n1_ n2_ n3_ n4_ n5_ n6_
                          clear hb hbox hg
                          refine hK.out _ _ ⟨((HB.out.cell (World.block_lt_of_cell? w _ hw470_0)).trans hw470_0), ((HB.out.cell (World.block_lt_of_cell? w _ hw470_1)).trans hw470_1), ((HB.out.cell (World.block_lt_of_cell? w _ hw470_2)).trans hw470_2), ((HB.out.cell (World.block_lt_of_cell? w _ hw471_0)).trans hw471_0), ((HB.out.cell (World.block_lt_of_cell? w _ hw471_1)).trans hw471_1), ((HB.out.cell (World.block_lt_of_cell? w _ hw471_2)).trans hw471_2)⟩ (fun hHeld => ?_)
                          clear hK K
                          refine norm_ (a' := ?_) ?_ ?_
                          rotate_left
                          · show Act.put _ (some 15) _ = _
                            simp only [Act.put, List.setIfInBounds_toArray, List.set_cons_zero, List.set_cons_succ, i64_w, i32_w]
                            rfl
                          exact norm_ (by simp only [putAll, Act.put, List.setIfInBounds_toArray, List.set_cons_zero, List.set_cons_succ]) (hCont (gb476) _ ⟨hHeld, (by (with_reducible repeat (first | apply Kd.R_alloc | apply Kd.R_drewN | apply Kd.R_drew)); exact Kd.R_mono HO_10.out (fun _ hk => ⟨hk.1.2, ⟨hk.1.1, hk.2⟩⟩)), (by (with_reducible repeat (first | apply Kd.R_alloc | apply Kd.R_drewN | apply Kd.R_drew)); exact Kd.R_mono HO_12.out (fun _ hk => ⟨hk.1.2, ⟨hk.1.1, hk.2⟩⟩)), (by (with_reducible repeat (first | apply Kd.R_alloc | apply Kd.R_drewN | apply Kd.R_drew)); exact Kd.R_mono HO_8.out (fun _ hk => ⟨hk.1.1, ⟨hk.1.2, hk.2⟩⟩)), (by (with_reducible repeat (first | refine blk_drewN ?_ _ | refine blk_drew ?_ | refine blk_alloc ?_ _)); exact BK476.out), GW476.out, GE476.out, (by repeat (first | (with_reducible first | exact HB.out | apply below_alloc | apply pw_below_drewN | apply below_drew1 | refine below_set ?_ GE476.out) | exact HB.out))⟩)
                        · skip
                          refine box_step ?hg (N := 15) ?hd (cs := #[.bool false, .string (⟨#[]⟩ : ByteArray), .string (⟨#[]⟩ : ByteArray)]) (t := 31) ?hr ?_; (case hd => rfl); (case hg => rfl); (case hr => first | (go_simp; done) | (go_simp; rfl))
                          intro gb476 hg w25 hbox hb
                          have n0_ := Aside0.mk (Kd.R_below (Kd.R_elderB (by (with_reducible repeat (first | apply Kd.R_alloc | apply Kd.R_drewN | apply Kd.R_drew)); exact HO_8.out) gb476 (Nat.le_of_eq hg.symm)) hb)
                          have n1_ := Aside0.mk (Kd.R_below (Kd.R_elderB (by (with_reducible repeat (first | apply Kd.R_alloc | apply Kd.R_drewN | apply Kd.R_drew)); exact HO_10.out) gb476 (Nat.le_of_eq hg.symm)) hb)
                          have n2_ := Aside0.mk (Kd.R_below (Kd.R_elderB (by (with_reducible repeat (first | apply Kd.R_alloc | apply Kd.R_drewN | apply Kd.R_drew)); exact HO_12.out) gb476 (Nat.le_of_eq hg.symm)) hb)
                          have n3_ := Aside0.mk (below_step (by repeat (first | (with_reducible first | exact HB.out | apply below_alloc | apply pw_below_drewN | apply below_drew1) | exact HB.out)) hb)
                          have n4_ := Aside0.mk (hbox)
                          have n5_ := Aside0.mk ((by rw [hg]; exact (below_size (by repeat (first | (with_reducible first | exact HB.out | apply below_alloc | apply pw_below_drewN | apply below_drew1) | exact HB.out))) : w.heap.size ≤ gb476))
                          have n6_ := Aside0.mk ((by rw [hg]; exact (below_size (by repeat (first | (with_reducible first | exact HB.out | apply below_alloc | apply pw_below_drewN | apply below_drew1) | exact HB.out))) : w.heap.size ≤ gb476))
                          clear HO_8
                          clear HO_10
                          clear HO_12
                          clear HB
                          have HO_8 := n0_
                          have HO_10 := n1_
                          have HO_12 := n2_
                          have HB := n3_
                          have BK476 := n4_
                          have GW476 := n5_
                          have GE476 := n6_
                          clear n0_ n1_ n2_ n3_ n4_ n5_ n6_
                          clear hb hbox hg
                          refine hK.out _ _ ⟨((HB.out.cell (World.block_lt_of_cell? w _ hw470_0)).trans hw470_0), ((HB.out.cell (World.block_lt_of_cell? w _ hw470_1)).trans hw470_1), ((HB.out.cell (World.block_lt_of_cell? w _ hw470_2)).trans hw470_2), ((HB.out.cell (World.block_lt_of_cell? w _ hw471_0)).trans hw471_0), ((HB.out.cell (World.block_lt_of_cell? w _ hw471_1)).trans hw471_1), ((HB.out.cell (World.block_lt_of_cell? w _ hw471_2)).trans hw471_2)⟩ (fun hHeld => ?_)
                          clear hK K
                          refine norm_ (a' := ?_) ?_ ?_
                          rotate_left
                          · show Act.put _ (some 15) _ = _
                            simp only [Act.put, List.setIfInBounds_toArray, List.set_cons_zero, List.set_cons_succ, i64_w, i32_w]
                            rfl
                          refine one_ (i := 8) (N := some 61) #[true, true, true, true, true, true, true, true, true, false, false, false, true, false, false] rfl rfl (one_of HT_.out (by kernel_rfl)) (by decide) (fun K hK => ?_)
                          refine goes_ Tryz.func22 (by kernel_rfl) rfl #[.agg #[.bool ((rd_T31 l1 x14_2).f0), .string ((rd_T31 l1 x14_2).f1), .string ((rd_T31 l1 x14_2).f2)], .agg #[.bool ((rd_T31 l2 x14_2).f0), .string ((rd_T31 l2 x14_2).f1), .string ((rd_T31 l2 x14_2).f2)]] (by rfl) rfl rfl (by (try simp only [List.map_toArray, List.map_cons, List.map_nil]); first | done | rfl | (simp only [List.length_drop, List.length_take]; rfl)) ?_
                          with_reducible refine (ratio_Add.calls ((rd_T31 l1 x14_2).f0) ((rd_T31 l1 x14_2).f1) ((rd_T31 l1 x14_2).f2) ((rd_T31 l2 x14_2).f0) ((rd_T31 l2 x14_2).f1) ((rd_T31 l2 x14_2).f2) t472 t473 t474 t475 _ ?side1 A21.out).mono ?_
                          (case side1 => exact Tab.below HTAB.out (by repeat (first | (with_reducible first | exact HB.out | apply below_alloc | apply pw_below_drewN | apply below_drew1 | refine below_set ?_ GE476.out) | exact HB.out)))
                          rintro e w26 ⟨rfl, hb⟩
                          refine ⟨_, rfl, ?_⟩
                          have n0_ := Aside0.mk (Kd.R_below (by (with_reducible repeat (first | apply Kd.R_alloc | apply Kd.R_drewN | apply Kd.R_drew)); exact HO_8.out) hb)
                          have n1_ := Aside0.mk (Kd.R_below (by (with_reducible repeat (first | apply Kd.R_alloc | apply Kd.R_drewN | apply Kd.R_drew)); exact HO_10.out) hb)
                          have n2_ := Aside0.mk (Kd.R_below (by (with_reducible repeat (first | apply Kd.R_alloc | apply Kd.R_drewN | apply Kd.R_drew)); exact HO_12.out) hb)
                          have n3_ := Aside0.mk (blk_below (g := gb476) (o := .cells #[.bool false, .string (⟨#[]⟩ : ByteArray), .string (⟨#[]⟩ : ByteArray)] 31 (0, 0)) (by (with_reducible repeat (first | refine blk_drewN ?_ _ | refine blk_drew ?_ | refine blk_alloc ?_ _)); exact BK476.out) hb)
                          have n4_ := Aside0.mk (below_step (by repeat (first | (with_reducible first | exact HB.out | apply below_alloc | apply pw_below_drewN | apply below_drew1 | refine below_set ?_ GE476.out) | exact HB.out)) hb)
                          clear HO_8
                          clear HO_10
                          clear HO_12
                          clear BK476
                          clear HB
                          have HO_8 := n0_
                          have HO_10 := n1_
                          have HO_12 := n2_
                          have BK476 := n3_
                          have HB := n4_
                          clear n0_ n1_ n2_ n3_ n4_
                          (try clear hb)
                          (try clear hb2)
                          (try clear hk)
                          (try clear hi)
                          refine hK.out _ _ ⟨((HB.out.cell (World.block_lt_of_cell? w _ hw470_0)).trans hw470_0), ((HB.out.cell (World.block_lt_of_cell? w _ hw470_1)).trans hw470_1), ((HB.out.cell (World.block_lt_of_cell? w _ hw470_2)).trans hw470_2), ((HB.out.cell (World.block_lt_of_cell? w _ hw471_0)).trans hw471_0), ((HB.out.cell (World.block_lt_of_cell? w _ hw471_1)).trans hw471_1), ((HB.out.cell (World.block_lt_of_cell? w _ hw471_2)).trans hw471_2)⟩ (fun hHeld => ?_)
                          clear hK K
                          refine norm_ (a' := ?_) ?_ ?_
                          rotate_left
                          · show Act.put _ (some 61) _ = _
                            simp only [Act.put, List.setIfInBounds_toArray, List.set_cons_zero, List.set_cons_succ, i64_w, i32_w]
                            rfl
                          refine pure_ (i := 9) (N := some 52) (v := ?_) (a' := ?_) #[true, true, true, true, true, true, true, true, true, true, false, false, true, false, false] rfl rfl (any_of HT_.out (by kernel_rfl)) (fun _ _ _ h => h) (Or.inl ⟨by rfl, ?_⟩) ?_ ?_
                          rotate_left
                          · intro w'
                            go_simp
                            with_reducible rfl
                          rotate_left
                          · simp only [Act.put, List.setIfInBounds_toArray, List.set_cons_zero, List.set_cons_succ, i64_w, i32_w]
                            rfl
                          refine pure_ (i := 10) (N := some 62) (v := ?_) (a' := ?_) #[true, true, true, true, true, true, true, true, true, true, true, false, true, false, false] rfl rfl (any_of HT_.out (by kernel_rfl)) (fun _ _ _ h => h) (Or.inl ⟨by rfl, ?_⟩) ?_ ?_
                          rotate_left
                          · intro w'
                            go_simp
                            with_reducible rfl
                          rotate_left
                          · simp only [Act.put, List.setIfInBounds_toArray, List.set_cons_zero, List.set_cons_succ, i64_w, i32_w]
                            rfl
                          refine pure_ (i := 11) (N := some 63) (v := ?_) (a' := ?_) #[true, true, true, true, true, true, true, true, true, true, true, true, true, false, false] rfl rfl (any_of HT_.out (by kernel_rfl)) (fun _ _ _ h => h) (Or.inl ⟨by rfl, ?_⟩) ?_ ?_
                          rotate_left
                          · intro w'
                            go_simp
                            with_reducible rfl
                          rotate_left
                          · simp only [Act.put, List.setIfInBounds_toArray, List.set_cons_zero, List.set_cons_succ, i64_w, i32_w]
                            rfl
                          exact norm_ (by simp only [putAll, Act.put, List.setIfInBounds_toArray, List.set_cons_zero, List.set_cons_succ]) (hCont (gb476) _ ⟨hHeld, (by (with_reducible repeat (first | apply Kd.R_alloc | apply Kd.R_drewN | apply Kd.R_drew)); exact Kd.R_mono HO_10.out (fun _ hk => ⟨hk.1.2, ⟨hk.1.1, hk.2⟩⟩)), (by (with_reducible repeat (first | apply Kd.R_alloc | apply Kd.R_drewN | apply Kd.R_drew)); exact Kd.R_mono HO_12.out (fun _ hk => ⟨hk.1.2, ⟨hk.1.1, hk.2⟩⟩)), (by (with_reducible repeat (first | apply Kd.R_alloc | apply Kd.R_drewN | apply Kd.R_drew)); exact Kd.R_mono HO_8.out (fun _ hk => ⟨hk.1.1, ⟨hk.1.2, hk.2⟩⟩)), (by (with_reducible repeat (first | refine blk_drewN ?_ _ | refine blk_drew ?_ | refine blk_alloc ?_ _)); exact BK476.out), GW476.out, GE476.out, (by repeat (first | (with_reducible first | exact HB.out | apply below_alloc | apply pw_below_drewN | apply below_drew1 | refine below_set ?_ GE476.out) | exact HB.out))⟩)
                      rintro gb476 w27 ⟨hS_, h0_, h1_, h2_, h3_, h4_, h5_, h6_⟩
                      have n0_ : Aside0 (Kd.R k31 31 w27 w.heap.size (fun k_ => some k_ ≠ (v468 : Value).ownBlock ∧ some k_ ≠ (u8 : Value).ownBlock ∧ k_ ≠ gb476) v464 t462) := ⟨h0_⟩
                      have n1_ : Aside0 (Kd.R k31 31 w27 w.heap.size (fun k_ => some k_ ≠ (v464 : Value).ownBlock ∧ some k_ ≠ (u8 : Value).ownBlock ∧ k_ ≠ gb476) v468 t466) := ⟨h1_⟩
                      have n2_ : Aside0 (Kd.R k31 31 w27 w.heap.size (fun k_ => some k_ ≠ (v464 : Value).ownBlock ∧ some k_ ≠ (v468 : Value).ownBlock ∧ k_ ≠ gb476) u8 x8_2) := ⟨h2_⟩
                      have n3_ : Aside0 (w27.heap[gb476]? = some (.cells #[.bool false, .string (⟨#[]⟩ : ByteArray), .string (⟨#[]⟩ : ByteArray)] 31 (0, 0))) := ⟨h3_⟩
                      have n4_ : Aside0 (w.heap.size ≤ gb476) := ⟨h4_⟩
                      have n5_ : Aside0 (w.heap.size ≤ gb476) := ⟨h5_⟩
                      have n6_ : Aside0 (Below w.heap.size w w27) := ⟨h6_⟩
                      clear HO_8
                      clear HO_10
                      clear HO_12
                      clear HB
                      clear h0_ h1_ h2_ h3_ h4_ h5_ h6_
                      have HO_10 := n0_
                      have HO_12 := n1_
                      have HO_8 := n2_
                      have BK476 := n3_
                      have GW476 := n4_
                      have GE476 := n5_
                      have HB := n6_
                      clear n0_ n1_ n2_ n3_ n4_ n5_ n6_
                      have hHeld : w27.cell? (ad470.add ((x14_2).toNat * 3)) = some (.bool ((rd_T31 l1 x14_2).f0)) ∧ w27.cell? ⟨(ad470.add ((x14_2).toNat * 3)).block, (ad470.add ((x14_2).toNat * 3)).off + 1, none⟩ = some (.string ((rd_T31 l1 x14_2).f1)) ∧ w27.cell? ⟨(ad470.add ((x14_2).toNat * 3)).block, (ad470.add ((x14_2).toNat * 3)).off + 2, none⟩ = some (.string ((rd_T31 l1 x14_2).f2)) ∧ w27.cell? (ad471.add ((x14_2).toNat * 3)) = some (.bool ((rd_T31 l2 x14_2).f0)) ∧ w27.cell? ⟨(ad471.add ((x14_2).toNat * 3)).block, (ad471.add ((x14_2).toNat * 3)).off + 1, none⟩ = some (.string ((rd_T31 l2 x14_2).f1)) ∧ w27.cell? ⟨(ad471.add ((x14_2).toNat * 3)).block, (ad471.add ((x14_2).toNat * 3)).off + 2, none⟩ = some (.string ((rd_T31 l2 x14_2).f2)) := hS_
                      refine norm_ (a' := ?_) ?_ ?_
                      rotate_left
                      · simp only [putAll, Act.put, List.setIfInBounds_toArray, List.set_cons_zero, List.set_cons_succ]
                        rfl
                      refine one_ (i := 13) (N := none) #[true, true, true, true, true, true, true, true, true, true, true, true, true, true, false] rfl rfl (one_of HT_.out (by kernel_rfl)) (by decide) (fun K hK => ?_)
                      have hs28 : w27.cell? ⟨gb476, 0, none⟩ = some (.bool false) := (blk_cell BK476.out 0).trans rfl
                      have hfs28 := blk_frozen BK476.out 0
                      have hs29 : w27.cell? ⟨gb476, 1, none⟩ = some (.string (⟨#[]⟩ : ByteArray)) := (blk_cell BK476.out 1).trans rfl
                      have hfs29 := blk_frozen BK476.out 1
                      have hs30 : w27.cell? ⟨gb476, 2, none⟩ = some (.string (⟨#[]⟩ : ByteArray)) := (blk_cell BK476.out 2).trans rfl
                      have hfs30 := blk_frozen BK476.out 2
                      refine skip_ (w1 := ?_) (by rfl) rfl ?_ ?_
                      rotate_left
                      · go_simp
                        rfl
                      refine hK.out _ _ ⟨((cell_far (p := ⟨gb476, _, none⟩) (by first | exact Nat.ne_of_lt (Nat.lt_of_lt_of_le (by have := World.block_lt_of_cell? _ _ hw470_0; first | rwa [add_block] at this | exact this) GW476.out) | (rw [add_block]; exact Nat.ne_of_lt (Nat.lt_of_lt_of_le (by have := World.block_lt_of_cell? _ _ hw470_0; first | rwa [add_block] at this | exact this) GW476.out)) | (show (Addr.add _ _).block ≠ _; rw [add_block]; exact Nat.ne_of_lt (Nat.lt_of_lt_of_le (by have := World.block_lt_of_cell? _ _ hw470_0; first | rwa [add_block] at this | exact this) GW476.out)) | (dsimp only; exact Nat.ne_of_lt (Nat.lt_of_lt_of_le (by have := World.block_lt_of_cell? _ _ hw470_0; first | rwa [add_block] at this | exact this) GW476.out))) _).trans (((cell_far (p := ⟨gb476, _, none⟩) (by first | exact Nat.ne_of_lt (Nat.lt_of_lt_of_le (by have := World.block_lt_of_cell? _ _ hw470_0; first | rwa [add_block] at this | exact this) GW476.out) | (rw [add_block]; exact Nat.ne_of_lt (Nat.lt_of_lt_of_le (by have := World.block_lt_of_cell? _ _ hw470_0; first | rwa [add_block] at this | exact this) GW476.out)) | (show (Addr.add _ _).block ≠ _; rw [add_block]; exact Nat.ne_of_lt (Nat.lt_of_lt_of_le (by have := World.block_lt_of_cell? _ _ hw470_0; first | rwa [add_block] at this | exact this) GW476.out)) | (dsimp only; exact Nat.ne_of_lt (Nat.lt_of_lt_of_le (by have := World.block_lt_of_cell? _ _ hw470_0; first | rwa [add_block] at this | exact this) GW476.out))) _).trans (((cell_far (p := ⟨gb476, _, none⟩) (by first | exact Nat.ne_of_lt (Nat.lt_of_lt_of_le (by have := World.block_lt_of_cell? _ _ hw470_0; first | rwa [add_block] at this | exact this) GW476.out) | (rw [add_block]; exact Nat.ne_of_lt (Nat.lt_of_lt_of_le (by have := World.block_lt_of_cell? _ _ hw470_0; first | rwa [add_block] at this | exact this) GW476.out)) | (show (Addr.add _ _).block ≠ _; rw [add_block]; exact Nat.ne_of_lt (Nat.lt_of_lt_of_le (by have := World.block_lt_of_cell? _ _ hw470_0; first | rwa [add_block] at this | exact this) GW476.out)) | (dsimp only; exact Nat.ne_of_lt (Nat.lt_of_lt_of_le (by have := World.block_lt_of_cell? _ _ hw470_0; first | rwa [add_block] at this | exact this) GW476.out))) _).trans (hHeld.1)))))), ((cell_far (p := ⟨gb476, _, none⟩) (by first | exact Nat.ne_of_lt (Nat.lt_of_lt_of_le (by have := World.block_lt_of_cell? _ _ hw470_1; first | rwa [add_block] at this | exact this) GW476.out) | (rw [add_block]; exact Nat.ne_of_lt (Nat.lt_of_lt_of_le (by have := World.block_lt_of_cell? _ _ hw470_1; first | rwa [add_block] at this | exact this) GW476.out)) | (show (Addr.add _ _).block ≠ _; rw [add_block]; exact Nat.ne_of_lt (Nat.lt_of_lt_of_le (by have := World.block_lt_of_cell? _ _ hw470_1; first | rwa [add_block] at this | exact this) GW476.out)) | (dsimp only; exact Nat.ne_of_lt (Nat.lt_of_lt_of_le (by have := World.block_lt_of_cell? _ _ hw470_1; first | rwa [add_block] at this | exact this) GW476.out))) _).trans (((cell_far (p := ⟨gb476, _, none⟩) (by first | exact Nat.ne_of_lt (Nat.lt_of_lt_of_le (by have := World.block_lt_of_cell? _ _ hw470_1; first | rwa [add_block] at this | exact this) GW476.out) | (rw [add_block]; exact Nat.ne_of_lt (Nat.lt_of_lt_of_le (by have := World.block_lt_of_cell? _ _ hw470_1; first | rwa [add_block] at this | exact this) GW476.out)) | (show (Addr.add _ _).block ≠ _; rw [add_block]; exact Nat.ne_of_lt (Nat.lt_of_lt_of_le (by have := World.block_lt_of_cell? _ _ hw470_1; first | rwa [add_block] at this | exact this) GW476.out)) | (dsimp only; exact Nat.ne_of_lt (Nat.lt_of_lt_of_le (by have := World.block_lt_of_cell? _ _ hw470_1; first | rwa [add_block] at this | exact this) GW476.out))) _).trans (((cell_far (p := ⟨gb476, _, none⟩) (by first | exact Nat.ne_of_lt (Nat.lt_of_lt_of_le (by have := World.block_lt_of_cell? _ _ hw470_1; first | rwa [add_block] at this | exact this) GW476.out) | (rw [add_block]; exact Nat.ne_of_lt (Nat.lt_of_lt_of_le (by have := World.block_lt_of_cell? _ _ hw470_1; first | rwa [add_block] at this | exact this) GW476.out)) | (show (Addr.add _ _).block ≠ _; rw [add_block]; exact Nat.ne_of_lt (Nat.lt_of_lt_of_le (by have := World.block_lt_of_cell? _ _ hw470_1; first | rwa [add_block] at this | exact this) GW476.out)) | (dsimp only; exact Nat.ne_of_lt (Nat.lt_of_lt_of_le (by have := World.block_lt_of_cell? _ _ hw470_1; first | rwa [add_block] at this | exact this) GW476.out))) _).trans (hHeld.2.1)))))), ((cell_far (p := ⟨gb476, _, none⟩) (by first | exact Nat.ne_of_lt (Nat.lt_of_lt_of_le (by have := World.block_lt_of_cell? _ _ hw470_2; first | rwa [add_block] at this | exact this) GW476.out) | (rw [add_block]; exact Nat.ne_of_lt (Nat.lt_of_lt_of_le (by have := World.block_lt_of_cell? _ _ hw470_2; first | rwa [add_block] at this | exact this) GW476.out)) | (show (Addr.add _ _).block ≠ _; rw [add_block]; exact Nat.ne_of_lt (Nat.lt_of_lt_of_le (by have := World.block_lt_of_cell? _ _ hw470_2; first | rwa [add_block] at this | exact this) GW476.out)) | (dsimp only; exact Nat.ne_of_lt (Nat.lt_of_lt_of_le (by have := World.block_lt_of_cell? _ _ hw470_2; first | rwa [add_block] at this | exact this) GW476.out))) _).trans (((cell_far (p := ⟨gb476, _, none⟩) (by first | exact Nat.ne_of_lt (Nat.lt_of_lt_of_le (by have := World.block_lt_of_cell? _ _ hw470_2; first | rwa [add_block] at this | exact this) GW476.out) | (rw [add_block]; exact Nat.ne_of_lt (Nat.lt_of_lt_of_le (by have := World.block_lt_of_cell? _ _ hw470_2; first | rwa [add_block] at this | exact this) GW476.out)) | (show (Addr.add _ _).block ≠ _; rw [add_block]; exact Nat.ne_of_lt (Nat.lt_of_lt_of_le (by have := World.block_lt_of_cell? _ _ hw470_2; first | rwa [add_block] at this | exact this) GW476.out)) | (dsimp only; exact Nat.ne_of_lt (Nat.lt_of_lt_of_le (by have := World.block_lt_of_cell? _ _ hw470_2; first | rwa [add_block] at this | exact this) GW476.out))) _).trans (((cell_far (p := ⟨gb476, _, none⟩) (by first | exact Nat.ne_of_lt (Nat.lt_of_lt_of_le (by have := World.block_lt_of_cell? _ _ hw470_2; first | rwa [add_block] at this | exact this) GW476.out) | (rw [add_block]; exact Nat.ne_of_lt (Nat.lt_of_lt_of_le (by have := World.block_lt_of_cell? _ _ hw470_2; first | rwa [add_block] at this | exact this) GW476.out)) | (show (Addr.add _ _).block ≠ _; rw [add_block]; exact Nat.ne_of_lt (Nat.lt_of_lt_of_le (by have := World.block_lt_of_cell? _ _ hw470_2; first | rwa [add_block] at this | exact this) GW476.out)) | (dsimp only; exact Nat.ne_of_lt (Nat.lt_of_lt_of_le (by have := World.block_lt_of_cell? _ _ hw470_2; first | rwa [add_block] at this | exact this) GW476.out))) _).trans (hHeld.2.2.1)))))), ((cell_far (p := ⟨gb476, _, none⟩) (by first | exact Nat.ne_of_lt (Nat.lt_of_lt_of_le (by have := World.block_lt_of_cell? _ _ hw471_0; first | rwa [add_block] at this | exact this) GW476.out) | (rw [add_block]; exact Nat.ne_of_lt (Nat.lt_of_lt_of_le (by have := World.block_lt_of_cell? _ _ hw471_0; first | rwa [add_block] at this | exact this) GW476.out)) | (show (Addr.add _ _).block ≠ _; rw [add_block]; exact Nat.ne_of_lt (Nat.lt_of_lt_of_le (by have := World.block_lt_of_cell? _ _ hw471_0; first | rwa [add_block] at this | exact this) GW476.out)) | (dsimp only; exact Nat.ne_of_lt (Nat.lt_of_lt_of_le (by have := World.block_lt_of_cell? _ _ hw471_0; first | rwa [add_block] at this | exact this) GW476.out))) _).trans (((cell_far (p := ⟨gb476, _, none⟩) (by first | exact Nat.ne_of_lt (Nat.lt_of_lt_of_le (by have := World.block_lt_of_cell? _ _ hw471_0; first | rwa [add_block] at this | exact this) GW476.out) | (rw [add_block]; exact Nat.ne_of_lt (Nat.lt_of_lt_of_le (by have := World.block_lt_of_cell? _ _ hw471_0; first | rwa [add_block] at this | exact this) GW476.out)) | (show (Addr.add _ _).block ≠ _; rw [add_block]; exact Nat.ne_of_lt (Nat.lt_of_lt_of_le (by have := World.block_lt_of_cell? _ _ hw471_0; first | rwa [add_block] at this | exact this) GW476.out)) | (dsimp only; exact Nat.ne_of_lt (Nat.lt_of_lt_of_le (by have := World.block_lt_of_cell? _ _ hw471_0; first | rwa [add_block] at this | exact this) GW476.out))) _).trans (((cell_far (p := ⟨gb476, _, none⟩) (by first | exact Nat.ne_of_lt (Nat.lt_of_lt_of_le (by have := World.block_lt_of_cell? _ _ hw471_0; first | rwa [add_block] at this | exact this) GW476.out) | (rw [add_block]; exact Nat.ne_of_lt (Nat.lt_of_lt_of_le (by have := World.block_lt_of_cell? _ _ hw471_0; first | rwa [add_block] at this | exact this) GW476.out)) | (show (Addr.add _ _).block ≠ _; rw [add_block]; exact Nat.ne_of_lt (Nat.lt_of_lt_of_le (by have := World.block_lt_of_cell? _ _ hw471_0; first | rwa [add_block] at this | exact this) GW476.out)) | (dsimp only; exact Nat.ne_of_lt (Nat.lt_of_lt_of_le (by have := World.block_lt_of_cell? _ _ hw471_0; first | rwa [add_block] at this | exact this) GW476.out))) _).trans (hHeld.2.2.2.1)))))), ((cell_far (p := ⟨gb476, _, none⟩) (by first | exact Nat.ne_of_lt (Nat.lt_of_lt_of_le (by have := World.block_lt_of_cell? _ _ hw471_1; first | rwa [add_block] at this | exact this) GW476.out) | (rw [add_block]; exact Nat.ne_of_lt (Nat.lt_of_lt_of_le (by have := World.block_lt_of_cell? _ _ hw471_1; first | rwa [add_block] at this | exact this) GW476.out)) | (show (Addr.add _ _).block ≠ _; rw [add_block]; exact Nat.ne_of_lt (Nat.lt_of_lt_of_le (by have := World.block_lt_of_cell? _ _ hw471_1; first | rwa [add_block] at this | exact this) GW476.out)) | (dsimp only; exact Nat.ne_of_lt (Nat.lt_of_lt_of_le (by have := World.block_lt_of_cell? _ _ hw471_1; first | rwa [add_block] at this | exact this) GW476.out))) _).trans (((cell_far (p := ⟨gb476, _, none⟩) (by first | exact Nat.ne_of_lt (Nat.lt_of_lt_of_le (by have := World.block_lt_of_cell? _ _ hw471_1; first | rwa [add_block] at this | exact this) GW476.out) | (rw [add_block]; exact Nat.ne_of_lt (Nat.lt_of_lt_of_le (by have := World.block_lt_of_cell? _ _ hw471_1; first | rwa [add_block] at this | exact this) GW476.out)) | (show (Addr.add _ _).block ≠ _; rw [add_block]; exact Nat.ne_of_lt (Nat.lt_of_lt_of_le (by have := World.block_lt_of_cell? _ _ hw471_1; first | rwa [add_block] at this | exact this) GW476.out)) | (dsimp only; exact Nat.ne_of_lt (Nat.lt_of_lt_of_le (by have := World.block_lt_of_cell? _ _ hw471_1; first | rwa [add_block] at this | exact this) GW476.out))) _).trans (((cell_far (p := ⟨gb476, _, none⟩) (by first | exact Nat.ne_of_lt (Nat.lt_of_lt_of_le (by have := World.block_lt_of_cell? _ _ hw471_1; first | rwa [add_block] at this | exact this) GW476.out) | (rw [add_block]; exact Nat.ne_of_lt (Nat.lt_of_lt_of_le (by have := World.block_lt_of_cell? _ _ hw471_1; first | rwa [add_block] at this | exact this) GW476.out)) | (show (Addr.add _ _).block ≠ _; rw [add_block]; exact Nat.ne_of_lt (Nat.lt_of_lt_of_le (by have := World.block_lt_of_cell? _ _ hw471_1; first | rwa [add_block] at this | exact this) GW476.out)) | (dsimp only; exact Nat.ne_of_lt (Nat.lt_of_lt_of_le (by have := World.block_lt_of_cell? _ _ hw471_1; first | rwa [add_block] at this | exact this) GW476.out))) _).trans (hHeld.2.2.2.2.1)))))), ((cell_far (p := ⟨gb476, _, none⟩) (by first | exact Nat.ne_of_lt (Nat.lt_of_lt_of_le (by have := World.block_lt_of_cell? _ _ hw471_2; first | rwa [add_block] at this | exact this) GW476.out) | (rw [add_block]; exact Nat.ne_of_lt (Nat.lt_of_lt_of_le (by have := World.block_lt_of_cell? _ _ hw471_2; first | rwa [add_block] at this | exact this) GW476.out)) | (show (Addr.add _ _).block ≠ _; rw [add_block]; exact Nat.ne_of_lt (Nat.lt_of_lt_of_le (by have := World.block_lt_of_cell? _ _ hw471_2; first | rwa [add_block] at this | exact this) GW476.out)) | (dsimp only; exact Nat.ne_of_lt (Nat.lt_of_lt_of_le (by have := World.block_lt_of_cell? _ _ hw471_2; first | rwa [add_block] at this | exact this) GW476.out))) _).trans (((cell_far (p := ⟨gb476, _, none⟩) (by first | exact Nat.ne_of_lt (Nat.lt_of_lt_of_le (by have := World.block_lt_of_cell? _ _ hw471_2; first | rwa [add_block] at this | exact this) GW476.out) | (rw [add_block]; exact Nat.ne_of_lt (Nat.lt_of_lt_of_le (by have := World.block_lt_of_cell? _ _ hw471_2; first | rwa [add_block] at this | exact this) GW476.out)) | (show (Addr.add _ _).block ≠ _; rw [add_block]; exact Nat.ne_of_lt (Nat.lt_of_lt_of_le (by have := World.block_lt_of_cell? _ _ hw471_2; first | rwa [add_block] at this | exact this) GW476.out)) | (dsimp only; exact Nat.ne_of_lt (Nat.lt_of_lt_of_le (by have := World.block_lt_of_cell? _ _ hw471_2; first | rwa [add_block] at this | exact this) GW476.out))) _).trans (((cell_far (p := ⟨gb476, _, none⟩) (by first | exact Nat.ne_of_lt (Nat.lt_of_lt_of_le (by have := World.block_lt_of_cell? _ _ hw471_2; first | rwa [add_block] at this | exact this) GW476.out) | (rw [add_block]; exact Nat.ne_of_lt (Nat.lt_of_lt_of_le (by have := World.block_lt_of_cell? _ _ hw471_2; first | rwa [add_block] at this | exact this) GW476.out)) | (show (Addr.add _ _).block ≠ _; rw [add_block]; exact Nat.ne_of_lt (Nat.lt_of_lt_of_le (by have := World.block_lt_of_cell? _ _ hw471_2; first | rwa [add_block] at this | exact this) GW476.out)) | (dsimp only; exact Nat.ne_of_lt (Nat.lt_of_lt_of_le (by have := World.block_lt_of_cell? _ _ hw471_2; first | rwa [add_block] at this | exact this) GW476.out))) _).trans (hHeld.2.2.2.2.2))))))⟩ (fun hHeld => ?_)
                      clear hK K
                      refine pure_ (i := 14) (N := some 16) (v := ?_) (a' := ?_) #[true, true, true, true, true, true, true, true, true, true, true, true, true, true, true] rfl rfl (any_of HT_.out (by kernel_rfl)) (fun _ _ _ h => h) (Or.inl ⟨by rfl, ?_⟩) ?_ ?_
                      rotate_left
                      · intro w'
                        go_simp
                        with_reducible rfl
                      rotate_left
                      · simp only [Act.put, List.setIfInBounds_toArray, List.set_cons_zero, List.set_cons_succ, i64_w, i32_w]
                        rfl
                      refine done_ (done_of HT_.out (by kernel_rfl)) ?_
                      have hcz31_0 : w27.cell? ⟨gb476, 0, none⟩ = some (.bool false) := (blk_cell BK476.out 0).trans rfl
                      have hcz31_1 : w27.cell? ⟨gb476, 1, none⟩ = some (.string (⟨#[]⟩ : ByteArray)) := (blk_cell BK476.out 1).trans rfl
                      have hcz31_2 : w27.cell? ⟨gb476, 2, none⟩ = some (.string (⟨#[]⟩ : ByteArray)) := (blk_cell BK476.out 2).trans rfl
                      have hfz31_0 := blk_frozen BK476.out 0
                      have hfz31_1 := blk_frozen BK476.out 1
                      have hfz31_2 := blk_frozen BK476.out 2
                      try go_wp2_with (first | ((with_reducible refine gate_builtin (b := .append) (xs := #[.tmp 67, .tmp 69]) rfl ?_); (try (refine gate_guard (by rfl) ?_; dsimp only)); at_builtin; refine Kd.R_append k31 (w0 := w) w.heap.size rfl (.tmp 67) (.tmp 69) 23 31 (.agg #[(.bool false), (.string ⟨#[]⟩), (.string ⟨#[]⟩)]) 40 rfl Tryz.underlying23 info31 rfl (by decide) (by omega) u8 x8_2 (⟨t472, t473, t474⟩ : S31) [.bool t472, .string t473, .string t474] (fun k_ => some k_ ≠ (v464 : Value).ownBlock ∧ some k_ ≠ (v468 : Value).ownBlock ∧ k_ ≠ gb476) (fun _ => False) rfl (by first | (go_simp; done) | (go_simp; rfl)) ?aP (fun _ hk => hk.elim) ?aF ?aO ?aB ?aS ?aL ?_; (case aP => exact k31_mkM _ _ _ (⟨t472, t473, t474⟩ : S31)); (case aB => exact (by repeat (first | (with_reducible first | exact HB.out | apply below_alloc | apply pw_below_drewN | apply below_drew1 | refine below_set ?_ GE476.out) | exact HB.out))); (case aF => exact (fun k_ hk => ⟨Kd.fresh' (Kd.R_lt (by (with_reducible repeat (first | apply Kd.R_alloc | apply Kd.R_drewN | apply Kd.R_drew)); exact (Kd.R_mono (Kd.R_far (p := ⟨gb476, 2, none⟩) (Kd.R_far (p := ⟨gb476, 1, none⟩) (Kd.R_far (p := ⟨gb476, 0, none⟩) (Kd.R_mono HO_10.out (fun k_ hk => (⟨hk, hk.2.2⟩ : _ ∧ k_ ≠ gb476))) (fun _ hk => hk.2) (.bool t472)) (fun _ hk => hk.2) (.string t473)) (fun _ hk => hk.2) (.string t474)) (fun _ h_ => h_.1)))) k_ hk, Kd.fresh' (Kd.R_lt (by (with_reducible repeat (first | apply Kd.R_alloc | apply Kd.R_drewN | apply Kd.R_drew)); exact (Kd.R_mono (Kd.R_far (p := ⟨gb476, 2, none⟩) (Kd.R_far (p := ⟨gb476, 1, none⟩) (Kd.R_far (p := ⟨gb476, 0, none⟩) (Kd.R_mono HO_12.out (fun k_ hk => (⟨hk, hk.2.2⟩ : _ ∧ k_ ≠ gb476))) (fun _ hk => hk.2) (.bool t472)) (fun _ hk => hk.2) (.string t473)) (fun _ hk => hk.2) (.string t474)) (fun _ h_ => h_.1)))) k_ hk, Kd.freshB (g := gb476) (o := .cells #[.bool t472, .string t473, .string t474] 31 (0, 0)) (by (with_reducible repeat (first | refine blk_drewN ?_ _ | refine blk_drew ?_ | refine blk_alloc ?_ _)); refine blk_put (cs := #[.bool t472, .string t473, .string (⟨#[]⟩ : ByteArray)]) ?_ 2 _ rfl; (with_reducible repeat (first | refine blk_drewN ?_ _ | refine blk_drew ?_ | refine blk_alloc ?_ _)); refine blk_put (cs := #[.bool t472, .string (⟨#[]⟩ : ByteArray), .string (⟨#[]⟩ : ByteArray)]) ?_ 1 _ rfl; (with_reducible repeat (first | refine blk_drewN ?_ _ | refine blk_drew ?_ | refine blk_alloc ?_ _)); refine blk_put (cs := #[.bool false, .string (⟨#[]⟩ : ByteArray), .string (⟨#[]⟩ : ByteArray)]) ?_ 0 _ rfl; (with_reducible repeat (first | refine blk_drewN ?_ _ | refine blk_drew ?_ | refine blk_alloc ?_ _)); exact BK476.out) k_ hk⟩)); (case aO => exact (by (with_reducible repeat (first | apply Kd.R_alloc | apply Kd.R_drewN | apply Kd.R_drew)); exact Kd.R_mono (Kd.R_far (p := ⟨gb476, 2, none⟩) (Kd.R_far (p := ⟨gb476, 1, none⟩) (Kd.R_far (p := ⟨gb476, 0, none⟩) (Kd.R_mono HO_8.out (fun k_ hk => (⟨hk, hk.2.2⟩ : _ ∧ k_ ≠ gb476))) (fun _ hk => hk.2) (.bool t472)) (fun _ hk => hk.2) (.string t473)) (fun _ hk => hk.2) (.string t474)) (fun _ hk => ⟨hk.1.1, ⟨hk.1.2.1, hk.1.2.2⟩⟩))); (case aS => exact (below_size (by repeat (first | (with_reducible first | exact HB.out | apply below_alloc | apply pw_below_drewN | apply below_drew1 | refine below_set ?_ GE476.out) | exact HB.out)))); (case aL => have := LMc23.out; omega); intro v478 w32 ho hb hg hat; rw [← Ny477.out] at ho; have n0_ := Aside0.mk (Kd.R_after (ok := (fun k_ => some k_ ≠ (v468 : Value).ownBlock ∧ k_ ≠ gb476)) (by (with_reducible repeat (first | apply Kd.R_alloc | apply Kd.R_drewN | apply Kd.R_drew)); exact Kd.R_mono (Kd.R_far (p := ⟨gb476, 2, none⟩) (Kd.R_far (p := ⟨gb476, 1, none⟩) (Kd.R_far (p := ⟨gb476, 0, none⟩) (Kd.R_mono HO_10.out (fun k_ hk => (⟨hk, hk.2.2⟩ : _ ∧ k_ ≠ gb476))) (fun _ hk => hk.2) (.bool t472)) (fun _ hk => hk.2) (.string t473)) (fun _ hk => hk.2) (.string t474)) (fun _ hk => ⟨⟨hk.1.1, hk.1.2.2⟩, hk.1.2.1⟩)) hg hat); have n1_ := Aside0.mk (Kd.R_after (ok := (fun k_ => some k_ ≠ (v464 : Value).ownBlock ∧ k_ ≠ gb476)) (by (with_reducible repeat (first | apply Kd.R_alloc | apply Kd.R_drewN | apply Kd.R_drew)); exact Kd.R_mono (Kd.R_far (p := ⟨gb476, 2, none⟩) (Kd.R_far (p := ⟨gb476, 1, none⟩) (Kd.R_far (p := ⟨gb476, 0, none⟩) (Kd.R_mono HO_12.out (fun k_ hk => (⟨hk, hk.2.2⟩ : _ ∧ k_ ≠ gb476))) (fun _ hk => hk.2) (.bool t472)) (fun _ hk => hk.2) (.string t473)) (fun _ hk => hk.2) (.string t474)) (fun _ hk => ⟨⟨hk.1.1, hk.1.2.2⟩, hk.1.2.1⟩)) hg hat); have n2_ := Aside0.mk (blk_grown (g := gb476) (o := .cells #[.bool t472, .string t473, .string t474] 31 (0, 0)) (by (with_reducible repeat (first | refine blk_drewN ?_ _ | refine blk_drew ?_ | refine blk_alloc ?_ _)); refine blk_put (cs := #[.bool t472, .string t473, .string (⟨#[]⟩ : ByteArray)]) ?_ 2 _ rfl; (with_reducible repeat (first | refine blk_drewN ?_ _ | refine blk_drew ?_ | refine blk_alloc ?_ _)); refine blk_put (cs := #[.bool t472, .string (⟨#[]⟩ : ByteArray), .string (⟨#[]⟩ : ByteArray)]) ?_ 1 _ rfl; (with_reducible repeat (first | refine blk_drewN ?_ _ | refine blk_drew ?_ | refine blk_alloc ?_ _)); refine blk_put (cs := #[.bool false, .string (⟨#[]⟩ : ByteArray), .string (⟨#[]⟩ : ByteArray)]) ?_ 0 _ rfl; (with_reducible repeat (first | refine blk_drewN ?_ _ | refine blk_drew ?_ | refine blk_alloc ?_ _)); exact BK476.out) hg (Kd.R_away HO_8.out (fun _ hk => hk.2.2))); have n3_ := Aside0.mk (hb); have n4_ := Aside0.mk (ho); clear HO_10; clear HO_12; clear BK476; clear HB; clear HO_8; have HO_10 := n0_; have HO_12 := n1_; have BK476 := n2_; have HB := n3_; have HO479 := n4_; clear n0_ n1_ n2_ n3_ n4_; clear ho hb hg hat))
                      go_roundg k2
                      case measure => have := HJ4.out; have := HK2.out; omega
                      case rel => exact ⟨(y477), (wrap64 (x14_2 + 1)), (by first | rfl | (simp; done) | (simp [*]; done)), H', ⟨by have := HJ4.out; have := HK2.out; omega⟩, ⟨by (with_reducible repeat (first | apply Kd.R_alloc | apply Kd.R_drewN | apply Kd.R_drew)); exact Kd.R_mono HO479.out (fun _ hk => ⟨hk.1, hk.2.1⟩)⟩, ⟨by (with_reducible repeat (first | apply Kd.R_alloc | apply Kd.R_drewN | apply Kd.R_drew)); exact Kd.R_mono HO_10.out (fun _ hk => ⟨hk.2, hk.1.1⟩)⟩, ⟨by (with_reducible repeat (first | apply Kd.R_alloc | apply Kd.R_drewN | apply Kd.R_drew)); exact Kd.R_mono HO_12.out (fun _ hk => ⟨hk.2, hk.1.1⟩)⟩, ⟨by repeat (first | (with_reducible first | exact HB.out | apply below_alloc | apply pw_below_drewN | apply below_drew1 | refine below_set ?_ GE476.out) | exact HB.out)⟩⟩
                    · rw [if_neg c23] at H
                      exact absurd H (by simp)
                  · rw [if_neg c22] at H
                    have c22b0 : (t475 == 0) = false := beq_eq_false_iff_ne.mpr c22
                    have c22b1 : (t475 != 0) = true := bne_iff_ne.mpr c22
                    obtain rfl := Option.some.inj H
                    try go_wp2
                    have n0_ := Aside0.mk (Kd.R_drew HO_8.out)
                    have n1_ := Aside0.mk (Kd.R_drew HO_10.out)
                    have n2_ := Aside0.mk (Kd.R_drew HO_12.out)
                    have n3_ := Aside0.mk (below_drew1 HB.out)
                    clear HO_8
                    clear HO_10
                    clear HO_12
                    clear HB
                    have HO_8 := n0_
                    have HO_10 := n1_
                    have HO_12 := n2_
                    have HB := n3_
                    clear n0_ n1_ n2_ n3_
                    have p470 : 0 ≤ (x14_2 : Int) := of_decide_eq_true (by first | (with_reducible assumption) | assumption)
                    have q470 : x14_2 < (l1.length : Int) := of_decide_eq_true (by first | (with_reducible assumption) | assumption)
                    obtain ⟨ad470, e470, hx470_0, hx470_1, hx470_2⟩ := at_T31 HR1.out x14_2 p470 q470
                    have hw470_2 := hx470_2
                    have hw470_1 := hx470_1
                    have hw470_0 := hx470_0
                    cases e470
                    replace hx470_0 := (HB.out.cell (World.block_lt_of_cell? w _ hx470_0)).trans hx470_0
                    replace hx470_1 := (HB.out.cell (World.block_lt_of_cell? w _ hx470_1)).trans hx470_1
                    replace hx470_2 := (HB.out.cell (World.block_lt_of_cell? w _ hx470_2)).trans hx470_2
                    replace p470 := eq_true p470
                    replace q470 := eq_true q470
                    have p471 : 0 ≤ (x14_2 : Int) := of_decide_eq_true (by first | (with_reducible assumption) | assumption)
                    have q471 : x14_2 < (l2.length : Int) := of_decide_eq_true (by first | (with_reducible assumption) | assumption)
                    obtain ⟨ad471, e471, hx471_0, hx471_1, hx471_2⟩ := at_T31 HR2.out x14_2 p471 q471
                    have hw471_2 := hx471_2
                    have hw471_1 := hx471_1
                    have hw471_0 := hx471_0
                    cases e471
                    replace hx471_0 := (HB.out.cell (World.block_lt_of_cell? w _ hx471_0)).trans hx471_0
                    replace hx471_1 := (HB.out.cell (World.block_lt_of_cell? w _ hx471_1)).trans hx471_1
                    replace hx471_2 := (HB.out.cell (World.block_lt_of_cell? w _ hx471_2)).trans hx471_2
                    replace p471 := eq_true p471
                    replace q471 := eq_true q471
                    refine start_ (n := 15) (S := fun w' => w'.cell? (ad470.add ((x14_2).toNat * 3)) = some (.bool ((rd_T31 l1 x14_2).f0)) ∧ w'.cell? ⟨(ad470.add ((x14_2).toNat * 3)).block, (ad470.add ((x14_2).toNat * 3)).off + 1, none⟩ = some (.string ((rd_T31 l1 x14_2).f1)) ∧ w'.cell? ⟨(ad470.add ((x14_2).toNat * 3)).block, (ad470.add ((x14_2).toNat * 3)).off + 2, none⟩ = some (.string ((rd_T31 l1 x14_2).f2)) ∧ w'.cell? (ad471.add ((x14_2).toNat * 3)) = some (.bool ((rd_T31 l2 x14_2).f0)) ∧ w'.cell? ⟨(ad471.add ((x14_2).toNat * 3)).block, (ad471.add ((x14_2).toNat * 3)).off + 1, none⟩ = some (.string ((rd_T31 l2 x14_2).f1)) ∧ w'.cell? ⟨(ad471.add ((x14_2).toNat * 3)).block, (ad471.add ((x14_2).toNat * 3)).off + 2, none⟩ = some (.string ((rd_T31 l2 x14_2).f2))) (ds := []) #[false, false, false, false, false, false, false, false, false, false, false, false, false, false, false] (by kernel_rfl) rfl rfl ⟨((HB.out.cell (World.block_lt_of_cell? w _ hw470_0)).trans hw470_0), ((HB.out.cell (World.block_lt_of_cell? w _ hw470_1)).trans hw470_1), ((HB.out.cell (World.block_lt_of_cell? w _ hw470_2)).trans hw470_2), ((HB.out.cell (World.block_lt_of_cell? w _ hw471_0)).trans hw471_0), ((HB.out.cell (World.block_lt_of_cell? w _ hw471_1)).trans hw471_1), ((HB.out.cell (World.block_lt_of_cell? w _ hw471_2)).trans hw471_2)⟩ (fun hHeld => ?_); refine with_tabW customhouselaw19_LinearSums.tab10 customhouselaw19_LinearSums.bits10 (fun HT_ HW_ => ?_)
                    generalize wr.drew = w33 at HO_8 HO_10 HO_12 HB hx470_0 hx470_1 hx470_2 hx471_0 hx471_1 hx471_2 hHeld ⊢
                    refine pure_ (i := 0) (N := some 53) (v := ?_) (a' := ?_) #[true, false, false, false, false, false, false, false, false, false, false, false, false, false, false] rfl rfl (any_of HT_.out (by kernel_rfl)) (fun _ _ _ h => h) (Or.inl ⟨by rfl, ?_⟩) ?_ ?_
                    rotate_left
                    · intro w'
                      go_simp
                      with_reducible rfl
                    rotate_left
                    · simp only [Act.put, List.setIfInBounds_toArray, List.set_cons_zero, List.set_cons_succ, i64_w, i32_w]
                      rfl
                    refine pure_ (i := 1) (N := some 54) (v := ?_) (a' := ?_) #[true, true, false, false, false, false, false, false, false, false, false, false, false, false, false] rfl rfl (any_of HT_.out (by kernel_rfl)) (fun _ _ _ h => h) (Or.inl ⟨by rfl, ?_⟩) ?_ ?_
                    rotate_left
                    · intro w'
                      go_simp
                      with_reducible rfl
                    rotate_left
                    · simp only [Act.put, List.setIfInBounds_toArray, List.set_cons_zero, List.set_cons_succ, i64_w, i32_w]
                      rfl
                    refine pure_ (i := 2) (N := some 55) (v := ?_) (a' := ?_) #[true, true, true, false, false, false, false, false, false, false, false, false, false, false, false] rfl rfl (any_of HT_.out (by kernel_rfl)) (fun _ _ _ h => h) (Or.inl ⟨by rfl, ?_⟩) ?_ ?_
                    rotate_left
                    · intro w'
                      go_simp
                      with_reducible rfl
                    rotate_left
                    · simp only [Act.put, List.setIfInBounds_toArray, List.set_cons_zero, List.set_cons_succ, i64_w, i32_w]
                      rfl
                    refine pure_ (i := 4) (N := some 57) (v := ?_) (a' := ?_) #[true, true, true, false, true, false, false, false, false, false, false, false, false, false, false] rfl rfl (any_of HT_.out (by kernel_rfl)) (fun _ _ _ h => h) (Or.inl ⟨by rfl, ?_⟩) ?_ ?_
                    rotate_left
                    · intro w'
                      go_simp
                      with_reducible rfl
                    rotate_left
                    · simp only [Act.put, List.setIfInBounds_toArray, List.set_cons_zero, List.set_cons_succ, i64_w, i32_w]
                      rfl
                    refine pure_ (i := 5) (N := some 58) (v := ?_) (a' := ?_) #[true, true, true, false, true, true, false, false, false, false, false, false, false, false, false] rfl rfl (any_of HT_.out (by kernel_rfl)) (fun _ _ _ h => h) (Or.inl ⟨by rfl, ?_⟩) ?_ ?_
                    rotate_left
                    · intro w'
                      go_simp
                      with_reducible rfl
                    rotate_left
                    · simp only [Act.put, List.setIfInBounds_toArray, List.set_cons_zero, List.set_cons_succ, i64_w, i32_w]
                      rfl
                    refine pure_ (i := 6) (N := some 59) (v := ?_) (a' := ?_) #[true, true, true, false, true, true, true, false, false, false, false, false, false, false, false] rfl rfl (any_of HT_.out (by kernel_rfl)) (fun _ _ _ h => h) (Or.inl ⟨by rfl, ?_⟩) ?_ ?_
                    rotate_left
                    · intro w'
                      go_simp
                      with_reducible rfl
                    rotate_left
                    · simp only [Act.put, List.setIfInBounds_toArray, List.set_cons_zero, List.set_cons_succ, i64_w, i32_w]
                      rfl
                    refine take_ (i := 3) (N := some 56) (v := ?_) (a' := ?_) #[true, true, true, true, true, true, true, false, false, false, false, false, false, false, false] rfl rfl (take_ofW HT_.out HW_.out (by kernel_rfl)) (fun _ _ _ h => h) (Or.inl ⟨by rfl, ?_⟩) hHeld ?_ ?_
                    rotate_left
                    · rintro w' ⟨s0, s1, s2, s3, s4, s5⟩
                      go_simp
                      with_reducible rfl
                    rotate_left
                    · simp only [Act.put, List.setIfInBounds_toArray, List.set_cons_zero, List.set_cons_succ, i64_w, i32_w]
                      rfl
                    refine take_ (i := 7) (N := some 60) (v := ?_) (a' := ?_) #[true, true, true, true, true, true, true, true, false, false, false, false, false, false, false] rfl rfl (take_ofW HT_.out HW_.out (by kernel_rfl)) (fun _ _ _ h => h) (Or.inl ⟨by rfl, ?_⟩) hHeld ?_ ?_
                    rotate_left
                    · rintro w' ⟨s0, s1, s2, s3, s4, s5⟩
                      go_simp
                      with_reducible rfl
                    rotate_left
                    · simp only [Act.put, List.setIfInBounds_toArray, List.set_cons_zero, List.set_cons_succ, i64_w, i32_w]
                      rfl
                    refine join_ (σ := Nat) 2 #[true, true, true, true, true, true, true, true, true, true, true, true, true, false, false] (fun s_ => [(61, .tuple #[.agg #[.bool t472, .string t473, .string t474], .int .i64 t475]), (15, .pointer (some ⟨s_, 0, none⟩)), (52, .tuple #[.agg #[.bool t472, .string t473, .string t474], .int .i64 t475]), (62, .agg #[.bool t472, .string t473, .string t474]), (63, .int .i64 t475)]) (fun s_ w' => (w'.cell? (ad470.add ((x14_2).toNat * 3)) = some (.bool ((rd_T31 l1 x14_2).f0)) ∧ w'.cell? ⟨(ad470.add ((x14_2).toNat * 3)).block, (ad470.add ((x14_2).toNat * 3)).off + 1, none⟩ = some (.string ((rd_T31 l1 x14_2).f1)) ∧ w'.cell? ⟨(ad470.add ((x14_2).toNat * 3)).block, (ad470.add ((x14_2).toNat * 3)).off + 2, none⟩ = some (.string ((rd_T31 l1 x14_2).f2)) ∧ w'.cell? (ad471.add ((x14_2).toNat * 3)) = some (.bool ((rd_T31 l2 x14_2).f0)) ∧ w'.cell? ⟨(ad471.add ((x14_2).toNat * 3)).block, (ad471.add ((x14_2).toNat * 3)).off + 1, none⟩ = some (.string ((rd_T31 l2 x14_2).f1)) ∧ w'.cell? ⟨(ad471.add ((x14_2).toNat * 3)).block, (ad471.add ((x14_2).toNat * 3)).off + 2, none⟩ = some (.string ((rd_T31 l2 x14_2).f2))) ∧ (Kd.R k31 31 w' w.heap.size (fun k_ => some k_ ≠ (v468 : Value).ownBlock ∧ some k_ ≠ (u8 : Value).ownBlock ∧ k_ ≠ s_) v464 t462) ∧ (Kd.R k31 31 w' w.heap.size (fun k_ => some k_ ≠ (v464 : Value).ownBlock ∧ some k_ ≠ (u8 : Value).ownBlock ∧ k_ ≠ s_) v468 t466) ∧ (Kd.R k31 31 w' w.heap.size (fun k_ => some k_ ≠ (v464 : Value).ownBlock ∧ some k_ ≠ (v468 : Value).ownBlock ∧ k_ ≠ s_) u8 x8_2) ∧ (w'.heap[s_]? = some (.cells #[.bool false, .string (⟨#[]⟩ : ByteArray), .string (⟨#[]⟩ : ByteArray)] 31 (0, 0))) ∧ (w.heap.size ≤ s_) ∧ (w.heap.size ≤ s_) ∧ (Below w.heap.size w w')) ?_ ?_
                    rotate_left
                    · intro hCont
                      refine two_ (i := 8) (j := 12) (Ni := some 61) (Nj := some 15) #[true, true, true, true, true, true, true, true, true, false, false, false, false, false, false] #[true, true, true, true, true, true, true, true, false, false, false, false, true, false, false] rfl rfl rfl rfl (two_of HT_.out (by kernel_rfl)) (by decide) (by decide) (fun K hK => ?_) (fun K hK => ?_)
                      · skip
                        refine goes_ Tryz.func22 (by kernel_rfl) rfl #[.agg #[.bool ((rd_T31 l1 x14_2).f0), .string ((rd_T31 l1 x14_2).f1), .string ((rd_T31 l1 x14_2).f2)], .agg #[.bool ((rd_T31 l2 x14_2).f0), .string ((rd_T31 l2 x14_2).f1), .string ((rd_T31 l2 x14_2).f2)]] (by rfl) rfl rfl (by (try simp only [List.map_toArray, List.map_cons, List.map_nil]); first | done | rfl | (simp only [List.length_drop, List.length_take]; rfl)) ?_
                        with_reducible refine (ratio_Add.calls ((rd_T31 l1 x14_2).f0) ((rd_T31 l1 x14_2).f1) ((rd_T31 l1 x14_2).f2) ((rd_T31 l2 x14_2).f0) ((rd_T31 l2 x14_2).f1) ((rd_T31 l2 x14_2).f2) t472 t473 t474 t475 _ ?side1 A21.out).mono ?_
                        (case side1 => exact Tab.below HTAB.out (by repeat (first | (with_reducible first | exact HB.out | apply below_alloc | apply pw_below_drewN | apply below_drew1) | exact HB.out)))
                        rintro e w34 ⟨rfl, hb⟩
                        refine ⟨_, rfl, ?_⟩
                        have n0_ := Aside0.mk (Kd.R_below (by (with_reducible repeat (first | apply Kd.R_alloc | apply Kd.R_drewN | apply Kd.R_drew)); exact HO_8.out) hb)
                        have n1_ := Aside0.mk (Kd.R_below (by (with_reducible repeat (first | apply Kd.R_alloc | apply Kd.R_drewN | apply Kd.R_drew)); exact HO_10.out) hb)
                        have n2_ := Aside0.mk (Kd.R_below (by (with_reducible repeat (first | apply Kd.R_alloc | apply Kd.R_drewN | apply Kd.R_drew)); exact HO_12.out) hb)
                        have n3_ := Aside0.mk (below_step (by repeat (first | (with_reducible first | exact HB.out | apply below_alloc | apply pw_below_drewN | apply below_drew1) | exact HB.out)) hb)
                        clear HO_8
                        clear HO_10
                        clear HO_12
                        clear HB
                        have HO_8 := n0_
                        have HO_10 := n1_
                        have HO_12 := n2_
                        have HB := n3_
                        clear n0_ n1_ n2_ n3_
                        (try clear hb)
                        (try clear hb2)
                        (try clear hk)
                        (try clear hi)
                        refine hK.out _ _ ⟨((HB.out.cell (World.block_lt_of_cell? w _ hw470_0)).trans hw470_0), ((HB.out.cell (World.block_lt_of_cell? w _ hw470_1)).trans hw470_1), ((HB.out.cell (World.block_lt_of_cell? w _ hw470_2)).trans hw470_2), ((HB.out.cell (World.block_lt_of_cell? w _ hw471_0)).trans hw471_0), ((HB.out.cell (World.block_lt_of_cell? w _ hw471_1)).trans hw471_1), ((HB.out.cell (World.block_lt_of_cell? w _ hw471_2)).trans hw471_2)⟩ (fun hHeld => ?_)
                        clear hK K
                        refine norm_ (a' := ?_) ?_ ?_
                        rotate_left
                        · show Act.put _ (some 61) _ = _
                          simp only [Act.put, List.setIfInBounds_toArray, List.set_cons_zero, List.set_cons_succ, i64_w, i32_w]
                          rfl
                        refine pure_ (i := 9) (N := some 52) (v := ?_) (a' := ?_) #[true, true, true, true, true, true, true, true, true, true, false, false, false, false, false] rfl rfl (any_of HT_.out (by kernel_rfl)) (fun _ _ _ h => h) (Or.inl ⟨by rfl, ?_⟩) ?_ ?_
                        rotate_left
                        · intro w'
                          go_simp
                          with_reducible rfl
                        rotate_left
                        · simp only [Act.put, List.setIfInBounds_toArray, List.set_cons_zero, List.set_cons_succ, i64_w, i32_w]
                          rfl
                        refine pure_ (i := 10) (N := some 62) (v := ?_) (a' := ?_) #[true, true, true, true, true, true, true, true, true, true, true, false, false, false, false] rfl rfl (any_of HT_.out (by kernel_rfl)) (fun _ _ _ h => h) (Or.inl ⟨by rfl, ?_⟩) ?_ ?_
                        rotate_left
                        · intro w'
                          go_simp
                          with_reducible rfl
                        rotate_left
                        · simp only [Act.put, List.setIfInBounds_toArray, List.set_cons_zero, List.set_cons_succ, i64_w, i32_w]
                          rfl
                        refine pure_ (i := 11) (N := some 63) (v := ?_) (a' := ?_) #[true, true, true, true, true, true, true, true, true, true, true, true, false, false, false] rfl rfl (any_of HT_.out (by kernel_rfl)) (fun _ _ _ h => h) (Or.inl ⟨by rfl, ?_⟩) ?_ ?_
                        rotate_left
                        · intro w'
                          go_simp
                          with_reducible rfl
                        rotate_left
                        · simp only [Act.put, List.setIfInBounds_toArray, List.set_cons_zero, List.set_cons_succ, i64_w, i32_w]
                          rfl
                        refine one_ (i := 12) (N := some 15) #[true, true, true, true, true, true, true, true, true, true, true, true, true, false, false] rfl rfl (one_of HT_.out (by kernel_rfl)) (by decide) (fun K hK => ?_)
                        refine box_step ?hg (N := 15) ?hd (cs := #[.bool false, .string (⟨#[]⟩ : ByteArray), .string (⟨#[]⟩ : ByteArray)]) (t := 31) ?hr ?_; (case hd => rfl); (case hg => rfl); (case hr => first | (go_simp; done) | (go_simp; rfl))
                        intro gb476 hg w35 hbox hb
                        have n0_ := Aside0.mk (Kd.R_below (Kd.R_elderB (by (with_reducible repeat (first | apply Kd.R_alloc | apply Kd.R_drewN | apply Kd.R_drew)); exact HO_8.out) gb476 (Nat.le_of_eq hg.symm)) hb)
                        have n1_ := Aside0.mk (Kd.R_below (Kd.R_elderB (by (with_reducible repeat (first | apply Kd.R_alloc | apply Kd.R_drewN | apply Kd.R_drew)); exact HO_10.out) gb476 (Nat.le_of_eq hg.symm)) hb)
                        have n2_ := Aside0.mk (Kd.R_below (Kd.R_elderB (by (with_reducible repeat (first | apply Kd.R_alloc | apply Kd.R_drewN | apply Kd.R_drew)); exact HO_12.out) gb476 (Nat.le_of_eq hg.symm)) hb)
                        have n3_ := Aside0.mk (below_step (by repeat (first | (with_reducible first | exact HB.out | apply below_alloc | apply pw_below_drewN | apply below_drew1) | exact HB.out)) hb)
                        have n4_ := Aside0.mk (hbox)
                        have n5_ := Aside0.mk ((by rw [hg]; exact (below_size (by repeat (first | (with_reducible first | exact HB.out | apply below_alloc | apply pw_below_drewN | apply below_drew1) | exact HB.out))) : w.heap.size ≤ gb476))
                        have n6_ := Aside0.mk ((by rw [hg]; exact (below_size (by repeat (first | (with_reducible first | exact HB.out | apply below_alloc | apply pw_below_drewN | apply below_drew1) | exact HB.out))) : w.heap.size ≤ gb476))
                        clear HO_8
                        clear HO_10
                        clear HO_12
                        clear HB
                        have HO_8 := n0_
                        have HO_10 := n1_
                        have HO_12 := n2_
                        have HB := n3_
                        have BK476 := n4_
                        have GW476 := n5_
                        have GE476 := n6_
                        clear n0_ n1_ n2_ n3_ n4_ n5_ n6_
                        clear hb hbox hg
                        refine hK.out _ _ ⟨((HB.out.cell (World.block_lt_of_cell? w _ hw470_0)).trans hw470_0), ((HB.out.cell (World.block_lt_of_cell? w _ hw470_1)).trans hw470_1), ((HB.out.cell (World.block_lt_of_cell? w _ hw470_2)).trans hw470_2), ((HB.out.cell (World.block_lt_of_cell? w _ hw471_0)).trans hw471_0), ((HB.out.cell (World.block_lt_of_cell? w _ hw471_1)).trans hw471_1), ((HB.out.cell (World.block_lt_of_cell? w _ hw471_2)).trans hw471_2)⟩ (fun hHeld => ?_)
                        clear hK K
                        refine norm_ (a' := ?_) ?_ ?_
                        rotate_left
                        · show Act.put _ (some 15) _ = _
                          simp only [Act.put, List.setIfInBounds_toArray, List.set_cons_zero, List.set_cons_succ, i64_w, i32_w]
                          rfl
                        exact norm_ (by simp only [putAll, Act.put, List.setIfInBounds_toArray, List.set_cons_zero, List.set_cons_succ]) (hCont (gb476) _ ⟨hHeld, (by (with_reducible repeat (first | apply Kd.R_alloc | apply Kd.R_drewN | apply Kd.R_drew)); exact Kd.R_mono HO_10.out (fun _ hk => ⟨hk.1.2, ⟨hk.1.1, hk.2⟩⟩)), (by (with_reducible repeat (first | apply Kd.R_alloc | apply Kd.R_drewN | apply Kd.R_drew)); exact Kd.R_mono HO_12.out (fun _ hk => ⟨hk.1.2, ⟨hk.1.1, hk.2⟩⟩)), (by (with_reducible repeat (first | apply Kd.R_alloc | apply Kd.R_drewN | apply Kd.R_drew)); exact Kd.R_mono HO_8.out (fun _ hk => ⟨hk.1.1, ⟨hk.1.2, hk.2⟩⟩)), (by (with_reducible repeat (first | refine blk_drewN ?_ _ | refine blk_drew ?_ | refine blk_alloc ?_ _)); exact BK476.out), GW476.out, GE476.out, (by repeat (first | (with_reducible first | exact HB.out | apply below_alloc | apply pw_below_drewN | apply below_drew1 | refine below_set ?_ GE476.out) | exact HB.out))⟩)
                      · skip
                        refine box_step ?hg (N := 15) ?hd (cs := #[.bool false, .string (⟨#[]⟩ : ByteArray), .string (⟨#[]⟩ : ByteArray)]) (t := 31) ?hr ?_; (case hd => rfl); (case hg => rfl); (case hr => first | (go_simp; done) | (go_simp; rfl))
                        intro gb476 hg w34 hbox hb
                        have n0_ := Aside0.mk (Kd.R_below (Kd.R_elderB (by (with_reducible repeat (first | apply Kd.R_alloc | apply Kd.R_drewN | apply Kd.R_drew)); exact HO_8.out) gb476 (Nat.le_of_eq hg.symm)) hb)
                        have n1_ := Aside0.mk (Kd.R_below (Kd.R_elderB (by (with_reducible repeat (first | apply Kd.R_alloc | apply Kd.R_drewN | apply Kd.R_drew)); exact HO_10.out) gb476 (Nat.le_of_eq hg.symm)) hb)
                        have n2_ := Aside0.mk (Kd.R_below (Kd.R_elderB (by (with_reducible repeat (first | apply Kd.R_alloc | apply Kd.R_drewN | apply Kd.R_drew)); exact HO_12.out) gb476 (Nat.le_of_eq hg.symm)) hb)
                        have n3_ := Aside0.mk (below_step (by repeat (first | (with_reducible first | exact HB.out | apply below_alloc | apply pw_below_drewN | apply below_drew1) | exact HB.out)) hb)
                        have n4_ := Aside0.mk (hbox)
                        have n5_ := Aside0.mk ((by rw [hg]; exact (below_size (by repeat (first | (with_reducible first | exact HB.out | apply below_alloc | apply pw_below_drewN | apply below_drew1) | exact HB.out))) : w.heap.size ≤ gb476))
                        have n6_ := Aside0.mk ((by rw [hg]; exact (below_size (by repeat (first | (with_reducible first | exact HB.out | apply below_alloc | apply pw_below_drewN | apply below_drew1) | exact HB.out))) : w.heap.size ≤ gb476))
                        clear HO_8
                        clear HO_10
                        clear HO_12
                        clear HB
                        have HO_8 := n0_
                        have HO_10 := n1_
                        have HO_12 := n2_
                        have HB := n3_
                        have BK476 := n4_
                        have GW476 := n5_
                        have GE476 := n6_
                        clear n0_ n1_ n2_ n3_ n4_ n5_ n6_
                        clear hb hbox hg
                        refine hK.out _ _ ⟨((HB.out.cell (World.block_lt_of_cell? w _ hw470_0)).trans hw470_0), ((HB.out.cell (World.block_lt_of_cell? w _ hw470_1)).trans hw470_1), ((HB.out.cell (World.block_lt_of_cell? w _ hw470_2)).trans hw470_2), ((HB.out.cell (World.block_lt_of_cell? w _ hw471_0)).trans hw471_0), ((HB.out.cell (World.block_lt_of_cell? w _ hw471_1)).trans hw471_1), ((HB.out.cell (World.block_lt_of_cell? w _ hw471_2)).trans hw471_2)⟩ (fun hHeld => ?_)
                        clear hK K
                        refine norm_ (a' := ?_) ?_ ?_
                        rotate_left
                        · show Act.put _ (some 15) _ = _
                          simp only [Act.put, List.setIfInBounds_toArray, List.set_cons_zero, List.set_cons_succ, i64_w, i32_w]
                          rfl
                        refine one_ (i := 8) (N := some 61) #[true, true, true, true, true, true, true, true, true, false, false, false, true, false, false] rfl rfl (one_of HT_.out (by kernel_rfl)) (by decide) (fun K hK => ?_)
                        refine goes_ Tryz.func22 (by kernel_rfl) rfl #[.agg #[.bool ((rd_T31 l1 x14_2).f0), .string ((rd_T31 l1 x14_2).f1), .string ((rd_T31 l1 x14_2).f2)], .agg #[.bool ((rd_T31 l2 x14_2).f0), .string ((rd_T31 l2 x14_2).f1), .string ((rd_T31 l2 x14_2).f2)]] (by rfl) rfl rfl (by (try simp only [List.map_toArray, List.map_cons, List.map_nil]); first | done | rfl | (simp only [List.length_drop, List.length_take]; rfl)) ?_
                        with_reducible refine (ratio_Add.calls ((rd_T31 l1 x14_2).f0) ((rd_T31 l1 x14_2).f1) ((rd_T31 l1 x14_2).f2) ((rd_T31 l2 x14_2).f0) ((rd_T31 l2 x14_2).f1) ((rd_T31 l2 x14_2).f2) t472 t473 t474 t475 _ ?side1 A21.out).mono ?_
                        (case side1 => exact Tab.below HTAB.out (by repeat (first | (with_reducible first | exact HB.out | apply below_alloc | apply pw_below_drewN | apply below_drew1 | refine below_set ?_ GE476.out) | exact HB.out)))
                        rintro e w35 ⟨rfl, hb⟩
                        refine ⟨_, rfl, ?_⟩
                        have n0_ := Aside0.mk (Kd.R_below (by (with_reducible repeat (first | apply Kd.R_alloc | apply Kd.R_drewN | apply Kd.R_drew)); exact HO_8.out) hb)
                        have n1_ := Aside0.mk (Kd.R_below (by (with_reducible repeat (first | apply Kd.R_alloc | apply Kd.R_drewN | apply Kd.R_drew)); exact HO_10.out) hb)
                        have n2_ := Aside0.mk (Kd.R_below (by (with_reducible repeat (first | apply Kd.R_alloc | apply Kd.R_drewN | apply Kd.R_drew)); exact HO_12.out) hb)
                        have n3_ := Aside0.mk (blk_below (g := gb476) (o := .cells #[.bool false, .string (⟨#[]⟩ : ByteArray), .string (⟨#[]⟩ : ByteArray)] 31 (0, 0)) (by (with_reducible repeat (first | refine blk_drewN ?_ _ | refine blk_drew ?_ | refine blk_alloc ?_ _)); exact BK476.out) hb)
                        have n4_ := Aside0.mk (below_step (by repeat (first | (with_reducible first | exact HB.out | apply below_alloc | apply pw_below_drewN | apply below_drew1 | refine below_set ?_ GE476.out) | exact HB.out)) hb)
                        clear HO_8
                        clear HO_10
                        clear HO_12
                        clear BK476
                        clear HB
                        have HO_8 := n0_
                        have HO_10 := n1_
                        have HO_12 := n2_
                        have BK476 := n3_
                        have HB := n4_
                        clear n0_ n1_ n2_ n3_ n4_
                        (try clear hb)
                        (try clear hb2)
                        (try clear hk)
                        (try clear hi)
                        refine hK.out _ _ ⟨((HB.out.cell (World.block_lt_of_cell? w _ hw470_0)).trans hw470_0), ((HB.out.cell (World.block_lt_of_cell? w _ hw470_1)).trans hw470_1), ((HB.out.cell (World.block_lt_of_cell? w _ hw470_2)).trans hw470_2), ((HB.out.cell (World.block_lt_of_cell? w _ hw471_0)).trans hw471_0), ((HB.out.cell (World.block_lt_of_cell? w _ hw471_1)).trans hw471_1), ((HB.out.cell (World.block_lt_of_cell? w _ hw471_2)).trans hw471_2)⟩ (fun hHeld => ?_)
                        clear hK K
                        refine norm_ (a' := ?_) ?_ ?_
                        rotate_left
                        · show Act.put _ (some 61) _ = _
                          simp only [Act.put, List.setIfInBounds_toArray, List.set_cons_zero, List.set_cons_succ, i64_w, i32_w]
                          rfl
                        refine pure_ (i := 9) (N := some 52) (v := ?_) (a' := ?_) #[true, true, true, true, true, true, true, true, true, true, false, false, true, false, false] rfl rfl (any_of HT_.out (by kernel_rfl)) (fun _ _ _ h => h) (Or.inl ⟨by rfl, ?_⟩) ?_ ?_
                        rotate_left
                        · intro w'
                          go_simp
                          with_reducible rfl
                        rotate_left
                        · simp only [Act.put, List.setIfInBounds_toArray, List.set_cons_zero, List.set_cons_succ, i64_w, i32_w]
                          rfl
                        refine pure_ (i := 10) (N := some 62) (v := ?_) (a' := ?_) #[true, true, true, true, true, true, true, true, true, true, true, false, true, false, false] rfl rfl (any_of HT_.out (by kernel_rfl)) (fun _ _ _ h => h) (Or.inl ⟨by rfl, ?_⟩) ?_ ?_
                        rotate_left
                        · intro w'
                          go_simp
                          with_reducible rfl
                        rotate_left
                        · simp only [Act.put, List.setIfInBounds_toArray, List.set_cons_zero, List.set_cons_succ, i64_w, i32_w]
                          rfl
                        refine pure_ (i := 11) (N := some 63) (v := ?_) (a' := ?_) #[true, true, true, true, true, true, true, true, true, true, true, true, true, false, false] rfl rfl (any_of HT_.out (by kernel_rfl)) (fun _ _ _ h => h) (Or.inl ⟨by rfl, ?_⟩) ?_ ?_
                        rotate_left
                        · intro w'
                          go_simp
                          with_reducible rfl
                        rotate_left
                        · simp only [Act.put, List.setIfInBounds_toArray, List.set_cons_zero, List.set_cons_succ, i64_w, i32_w]
                          rfl
                        exact norm_ (by simp only [putAll, Act.put, List.setIfInBounds_toArray, List.set_cons_zero, List.set_cons_succ]) (hCont (gb476) _ ⟨hHeld, (by (with_reducible repeat (first | apply Kd.R_alloc | apply Kd.R_drewN | apply Kd.R_drew)); exact Kd.R_mono HO_10.out (fun _ hk => ⟨hk.1.2, ⟨hk.1.1, hk.2⟩⟩)), (by (with_reducible repeat (first | apply Kd.R_alloc | apply Kd.R_drewN | apply Kd.R_drew)); exact Kd.R_mono HO_12.out (fun _ hk => ⟨hk.1.2, ⟨hk.1.1, hk.2⟩⟩)), (by (with_reducible repeat (first | apply Kd.R_alloc | apply Kd.R_drewN | apply Kd.R_drew)); exact Kd.R_mono HO_8.out (fun _ hk => ⟨hk.1.1, ⟨hk.1.2, hk.2⟩⟩)), (by (with_reducible repeat (first | refine blk_drewN ?_ _ | refine blk_drew ?_ | refine blk_alloc ?_ _)); exact BK476.out), GW476.out, GE476.out, (by repeat (first | (with_reducible first | exact HB.out | apply below_alloc | apply pw_below_drewN | apply below_drew1 | refine below_set ?_ GE476.out) | exact HB.out))⟩)
                    rintro gb476 w36 ⟨hS_, h0_, h1_, h2_, h3_, h4_, h5_, h6_⟩
                    have n0_ : Aside0 (Kd.R k31 31 w36 w.heap.size (fun k_ => some k_ ≠ (v468 : Value).ownBlock ∧ some k_ ≠ (u8 : Value).ownBlock ∧ k_ ≠ gb476) v464 t462) := ⟨h0_⟩
                    have n1_ : Aside0 (Kd.R k31 31 w36 w.heap.size (fun k_ => some k_ ≠ (v464 : Value).ownBlock ∧ some k_ ≠ (u8 : Value).ownBlock ∧ k_ ≠ gb476) v468 t466) := ⟨h1_⟩
                    have n2_ : Aside0 (Kd.R k31 31 w36 w.heap.size (fun k_ => some k_ ≠ (v464 : Value).ownBlock ∧ some k_ ≠ (v468 : Value).ownBlock ∧ k_ ≠ gb476) u8 x8_2) := ⟨h2_⟩
                    have n3_ : Aside0 (w36.heap[gb476]? = some (.cells #[.bool false, .string (⟨#[]⟩ : ByteArray), .string (⟨#[]⟩ : ByteArray)] 31 (0, 0))) := ⟨h3_⟩
                    have n4_ : Aside0 (w.heap.size ≤ gb476) := ⟨h4_⟩
                    have n5_ : Aside0 (w.heap.size ≤ gb476) := ⟨h5_⟩
                    have n6_ : Aside0 (Below w.heap.size w w36) := ⟨h6_⟩
                    clear HO_8
                    clear HO_10
                    clear HO_12
                    clear HB
                    clear h0_ h1_ h2_ h3_ h4_ h5_ h6_
                    have HO_10 := n0_
                    have HO_12 := n1_
                    have HO_8 := n2_
                    have BK476 := n3_
                    have GW476 := n4_
                    have GE476 := n5_
                    have HB := n6_
                    clear n0_ n1_ n2_ n3_ n4_ n5_ n6_
                    have hHeld : w36.cell? (ad470.add ((x14_2).toNat * 3)) = some (.bool ((rd_T31 l1 x14_2).f0)) ∧ w36.cell? ⟨(ad470.add ((x14_2).toNat * 3)).block, (ad470.add ((x14_2).toNat * 3)).off + 1, none⟩ = some (.string ((rd_T31 l1 x14_2).f1)) ∧ w36.cell? ⟨(ad470.add ((x14_2).toNat * 3)).block, (ad470.add ((x14_2).toNat * 3)).off + 2, none⟩ = some (.string ((rd_T31 l1 x14_2).f2)) ∧ w36.cell? (ad471.add ((x14_2).toNat * 3)) = some (.bool ((rd_T31 l2 x14_2).f0)) ∧ w36.cell? ⟨(ad471.add ((x14_2).toNat * 3)).block, (ad471.add ((x14_2).toNat * 3)).off + 1, none⟩ = some (.string ((rd_T31 l2 x14_2).f1)) ∧ w36.cell? ⟨(ad471.add ((x14_2).toNat * 3)).block, (ad471.add ((x14_2).toNat * 3)).off + 2, none⟩ = some (.string ((rd_T31 l2 x14_2).f2)) := hS_
                    refine norm_ (a' := ?_) ?_ ?_
                    rotate_left
                    · simp only [putAll, Act.put, List.setIfInBounds_toArray, List.set_cons_zero, List.set_cons_succ]
                      rfl
                    refine one_ (i := 13) (N := none) #[true, true, true, true, true, true, true, true, true, true, true, true, true, true, false] rfl rfl (one_of HT_.out (by kernel_rfl)) (by decide) (fun K hK => ?_)
                    have hs37 : w36.cell? ⟨gb476, 0, none⟩ = some (.bool false) := (blk_cell BK476.out 0).trans rfl
                    have hfs37 := blk_frozen BK476.out 0
                    have hs38 : w36.cell? ⟨gb476, 1, none⟩ = some (.string (⟨#[]⟩ : ByteArray)) := (blk_cell BK476.out 1).trans rfl
                    have hfs38 := blk_frozen BK476.out 1
                    have hs39 : w36.cell? ⟨gb476, 2, none⟩ = some (.string (⟨#[]⟩ : ByteArray)) := (blk_cell BK476.out 2).trans rfl
                    have hfs39 := blk_frozen BK476.out 2
                    refine skip_ (w1 := ?_) (by rfl) rfl ?_ ?_
                    rotate_left
                    · go_simp
                      rfl
                    refine hK.out _ _ ⟨((cell_far (p := ⟨gb476, _, none⟩) (by first | exact Nat.ne_of_lt (Nat.lt_of_lt_of_le (by have := World.block_lt_of_cell? _ _ hw470_0; first | rwa [add_block] at this | exact this) GW476.out) | (rw [add_block]; exact Nat.ne_of_lt (Nat.lt_of_lt_of_le (by have := World.block_lt_of_cell? _ _ hw470_0; first | rwa [add_block] at this | exact this) GW476.out)) | (show (Addr.add _ _).block ≠ _; rw [add_block]; exact Nat.ne_of_lt (Nat.lt_of_lt_of_le (by have := World.block_lt_of_cell? _ _ hw470_0; first | rwa [add_block] at this | exact this) GW476.out)) | (dsimp only; exact Nat.ne_of_lt (Nat.lt_of_lt_of_le (by have := World.block_lt_of_cell? _ _ hw470_0; first | rwa [add_block] at this | exact this) GW476.out))) _).trans (((cell_far (p := ⟨gb476, _, none⟩) (by first | exact Nat.ne_of_lt (Nat.lt_of_lt_of_le (by have := World.block_lt_of_cell? _ _ hw470_0; first | rwa [add_block] at this | exact this) GW476.out) | (rw [add_block]; exact Nat.ne_of_lt (Nat.lt_of_lt_of_le (by have := World.block_lt_of_cell? _ _ hw470_0; first | rwa [add_block] at this | exact this) GW476.out)) | (show (Addr.add _ _).block ≠ _; rw [add_block]; exact Nat.ne_of_lt (Nat.lt_of_lt_of_le (by have := World.block_lt_of_cell? _ _ hw470_0; first | rwa [add_block] at this | exact this) GW476.out)) | (dsimp only; exact Nat.ne_of_lt (Nat.lt_of_lt_of_le (by have := World.block_lt_of_cell? _ _ hw470_0; first | rwa [add_block] at this | exact this) GW476.out))) _).trans (((cell_far (p := ⟨gb476, _, none⟩) (by first | exact Nat.ne_of_lt (Nat.lt_of_lt_of_le (by have := World.block_lt_of_cell? _ _ hw470_0; first | rwa [add_block] at this | exact this) GW476.out) | (rw [add_block]; exact Nat.ne_of_lt (Nat.lt_of_lt_of_le (by have := World.block_lt_of_cell? _ _ hw470_0; first | rwa [add_block] at this | exact this) GW476.out)) | (show (Addr.add _ _).block ≠ _; rw [add_block]; exact Nat.ne_of_lt (Nat.lt_of_lt_of_le (by have := World.block_lt_of_cell? _ _ hw470_0; first | rwa [add_block] at this | exact this) GW476.out)) | (dsimp only; exact Nat.ne_of_lt (Nat.lt_of_lt_of_le (by have := World.block_lt_of_cell? _ _ hw470_0; first | rwa [add_block] at this | exact this) GW476.out))) _).trans (hHeld.1)))))), ((cell_far (p := ⟨gb476, _, none⟩) (by first | exact Nat.ne_of_lt (Nat.lt_of_lt_of_le (by have := World.block_lt_of_cell? _ _ hw470_1; first | rwa [add_block] at this | exact this) GW476.out) | (rw [add_block]; exact Nat.ne_of_lt (Nat.lt_of_lt_of_le (by have := World.block_lt_of_cell? _ _ hw470_1; first | rwa [add_block] at this | exact this) GW476.out)) | (show (Addr.add _ _).block ≠ _; rw [add_block]; exact Nat.ne_of_lt (Nat.lt_of_lt_of_le (by have := World.block_lt_of_cell? _ _ hw470_1; first | rwa [add_block] at this | exact this) GW476.out)) | (dsimp only; exact Nat.ne_of_lt (Nat.lt_of_lt_of_le (by have := World.block_lt_of_cell? _ _ hw470_1; first | rwa [add_block] at this | exact this) GW476.out))) _).trans (((cell_far (p := ⟨gb476, _, none⟩) (by first | exact Nat.ne_of_lt (Nat.lt_of_lt_of_le (by have := World.block_lt_of_cell? _ _ hw470_1; first | rwa [add_block] at this | exact this) GW476.out) | (rw [add_block]; exact Nat.ne_of_lt (Nat.lt_of_lt_of_le (by have := World.block_lt_of_cell? _ _ hw470_1; first | rwa [add_block] at this | exact this) GW476.out)) | (show (Addr.add _ _).block ≠ _; rw [add_block]; exact Nat.ne_of_lt (Nat.lt_of_lt_of_le (by have := World.block_lt_of_cell? _ _ hw470_1; first | rwa [add_block] at this | exact this) GW476.out)) | (dsimp only; exact Nat.ne_of_lt (Nat.lt_of_lt_of_le (by have := World.block_lt_of_cell? _ _ hw470_1; first | rwa [add_block] at this | exact this) GW476.out))) _).trans (((cell_far (p := ⟨gb476, _, none⟩) (by first | exact Nat.ne_of_lt (Nat.lt_of_lt_of_le (by have := World.block_lt_of_cell? _ _ hw470_1; first | rwa [add_block] at this | exact this) GW476.out) | (rw [add_block]; exact Nat.ne_of_lt (Nat.lt_of_lt_of_le (by have := World.block_lt_of_cell? _ _ hw470_1; first | rwa [add_block] at this | exact this) GW476.out)) | (show (Addr.add _ _).block ≠ _; rw [add_block]; exact Nat.ne_of_lt (Nat.lt_of_lt_of_le (by have := World.block_lt_of_cell? _ _ hw470_1; first | rwa [add_block] at this | exact this) GW476.out)) | (dsimp only; exact Nat.ne_of_lt (Nat.lt_of_lt_of_le (by have := World.block_lt_of_cell? _ _ hw470_1; first | rwa [add_block] at this | exact this) GW476.out))) _).trans (hHeld.2.1)))))), ((cell_far (p := ⟨gb476, _, none⟩) (by first | exact Nat.ne_of_lt (Nat.lt_of_lt_of_le (by have := World.block_lt_of_cell? _ _ hw470_2; first | rwa [add_block] at this | exact this) GW476.out) | (rw [add_block]; exact Nat.ne_of_lt (Nat.lt_of_lt_of_le (by have := World.block_lt_of_cell? _ _ hw470_2; first | rwa [add_block] at this | exact this) GW476.out)) | (show (Addr.add _ _).block ≠ _; rw [add_block]; exact Nat.ne_of_lt (Nat.lt_of_lt_of_le (by have := World.block_lt_of_cell? _ _ hw470_2; first | rwa [add_block] at this | exact this) GW476.out)) | (dsimp only; exact Nat.ne_of_lt (Nat.lt_of_lt_of_le (by have := World.block_lt_of_cell? _ _ hw470_2; first | rwa [add_block] at this | exact this) GW476.out))) _).trans (((cell_far (p := ⟨gb476, _, none⟩) (by first | exact Nat.ne_of_lt (Nat.lt_of_lt_of_le (by have := World.block_lt_of_cell? _ _ hw470_2; first | rwa [add_block] at this | exact this) GW476.out) | (rw [add_block]; exact Nat.ne_of_lt (Nat.lt_of_lt_of_le (by have := World.block_lt_of_cell? _ _ hw470_2; first | rwa [add_block] at this | exact this) GW476.out)) | (show (Addr.add _ _).block ≠ _; rw [add_block]; exact Nat.ne_of_lt (Nat.lt_of_lt_of_le (by have := World.block_lt_of_cell? _ _ hw470_2; first | rwa [add_block] at this | exact this) GW476.out)) | (dsimp only; exact Nat.ne_of_lt (Nat.lt_of_lt_of_le (by have := World.block_lt_of_cell? _ _ hw470_2; first | rwa [add_block] at this | exact this) GW476.out))) _).trans (((cell_far (p := ⟨gb476, _, none⟩) (by first | exact Nat.ne_of_lt (Nat.lt_of_lt_of_le (by have := World.block_lt_of_cell? _ _ hw470_2; first | rwa [add_block] at this | exact this) GW476.out) | (rw [add_block]; exact Nat.ne_of_lt (Nat.lt_of_lt_of_le (by have := World.block_lt_of_cell? _ _ hw470_2; first | rwa [add_block] at this | exact this) GW476.out)) | (show (Addr.add _ _).block ≠ _; rw [add_block]; exact Nat.ne_of_lt (Nat.lt_of_lt_of_le (by have := World.block_lt_of_cell? _ _ hw470_2; first | rwa [add_block] at this | exact this) GW476.out)) | (dsimp only; exact Nat.ne_of_lt (Nat.lt_of_lt_of_le (by have := World.block_lt_of_cell? _ _ hw470_2; first | rwa [add_block] at this | exact this) GW476.out))) _).trans (hHeld.2.2.1)))))), ((cell_far (p := ⟨gb476, _, none⟩) (by first | exact Nat.ne_of_lt (Nat.lt_of_lt_of_le (by have := World.block_lt_of_cell? _ _ hw471_0; first | rwa [add_block] at this | exact this) GW476.out) | (rw [add_block]; exact Nat.ne_of_lt (Nat.lt_of_lt_of_le (by have := World.block_lt_of_cell? _ _ hw471_0; first | rwa [add_block] at this | exact this) GW476.out)) | (show (Addr.add _ _).block ≠ _; rw [add_block]; exact Nat.ne_of_lt (Nat.lt_of_lt_of_le (by have := World.block_lt_of_cell? _ _ hw471_0; first | rwa [add_block] at this | exact this) GW476.out)) | (dsimp only; exact Nat.ne_of_lt (Nat.lt_of_lt_of_le (by have := World.block_lt_of_cell? _ _ hw471_0; first | rwa [add_block] at this | exact this) GW476.out))) _).trans (((cell_far (p := ⟨gb476, _, none⟩) (by first | exact Nat.ne_of_lt (Nat.lt_of_lt_of_le (by have := World.block_lt_of_cell? _ _ hw471_0; first | rwa [add_block] at this | exact this) GW476.out) | (rw [add_block]; exact Nat.ne_of_lt (Nat.lt_of_lt_of_le (by have := World.block_lt_of_cell? _ _ hw471_0; first | rwa [add_block] at this | exact this) GW476.out)) | (show (Addr.add _ _).block ≠ _; rw [add_block]; exact Nat.ne_of_lt (Nat.lt_of_lt_of_le (by have := World.block_lt_of_cell? _ _ hw471_0; first | rwa [add_block] at this | exact this) GW476.out)) | (dsimp only; exact Nat.ne_of_lt (Nat.lt_of_lt_of_le (by have := World.block_lt_of_cell? _ _ hw471_0; first | rwa [add_block] at this | exact this) GW476.out))) _).trans (((cell_far (p := ⟨gb476, _, none⟩) (by first | exact Nat.ne_of_lt (Nat.lt_of_lt_of_le (by have := World.block_lt_of_cell? _ _ hw471_0; first | rwa [add_block] at this | exact this) GW476.out) | (rw [add_block]; exact Nat.ne_of_lt (Nat.lt_of_lt_of_le (by have := World.block_lt_of_cell? _ _ hw471_0; first | rwa [add_block] at this | exact this) GW476.out)) | (show (Addr.add _ _).block ≠ _; rw [add_block]; exact Nat.ne_of_lt (Nat.lt_of_lt_of_le (by have := World.block_lt_of_cell? _ _ hw471_0; first | rwa [add_block] at this | exact this) GW476.out)) | (dsimp only; exact Nat.ne_of_lt (Nat.lt_of_lt_of_le (by have := World.block_lt_of_cell? _ _ hw471_0; first | rwa [add_block] at this | exact this) GW476.out))) _).trans (hHeld.2.2.2.1)))))), ((cell_far (p := ⟨gb476, _, none⟩) (by first | exact Nat.ne_of_lt (Nat.lt_of_lt_of_le (by have := World.block_lt_of_cell? _ _ hw471_1; first | rwa [add_block] at this | exact this) GW476.out) | (rw [add_block]; exact Nat.ne_of_lt (Nat.lt_of_lt_of_le (by have := World.block_lt_of_cell? _ _ hw471_1; first | rwa [add_block] at this | exact this) GW476.out)) | (show (Addr.add _ _).block ≠ _; rw [add_block]; exact Nat.ne_of_lt (Nat.lt_of_lt_of_le (by have := World.block_lt_of_cell? _ _ hw471_1; first | rwa [add_block] at this | exact this) GW476.out)) | (dsimp only; exact Nat.ne_of_lt (Nat.lt_of_lt_of_le (by have := World.block_lt_of_cell? _ _ hw471_1; first | rwa [add_block] at this | exact this) GW476.out))) _).trans (((cell_far (p := ⟨gb476, _, none⟩) (by first | exact Nat.ne_of_lt (Nat.lt_of_lt_of_le (by have := World.block_lt_of_cell? _ _ hw471_1; first | rwa [add_block] at this | exact this) GW476.out) | (rw [add_block]; exact Nat.ne_of_lt (Nat.lt_of_lt_of_le (by have := World.block_lt_of_cell? _ _ hw471_1; first | rwa [add_block] at this | exact this) GW476.out)) | (show (Addr.add _ _).block ≠ _; rw [add_block]; exact Nat.ne_of_lt (Nat.lt_of_lt_of_le (by have := World.block_lt_of_cell? _ _ hw471_1; first | rwa [add_block] at this | exact this) GW476.out)) | (dsimp only; exact Nat.ne_of_lt (Nat.lt_of_lt_of_le (by have := World.block_lt_of_cell? _ _ hw471_1; first | rwa [add_block] at this | exact this) GW476.out))) _).trans (((cell_far (p := ⟨gb476, _, none⟩) (by first | exact Nat.ne_of_lt (Nat.lt_of_lt_of_le (by have := World.block_lt_of_cell? _ _ hw471_1; first | rwa [add_block] at this | exact this) GW476.out) | (rw [add_block]; exact Nat.ne_of_lt (Nat.lt_of_lt_of_le (by have := World.block_lt_of_cell? _ _ hw471_1; first | rwa [add_block] at this | exact this) GW476.out)) | (show (Addr.add _ _).block ≠ _; rw [add_block]; exact Nat.ne_of_lt (Nat.lt_of_lt_of_le (by have := World.block_lt_of_cell? _ _ hw471_1; first | rwa [add_block] at this | exact this) GW476.out)) | (dsimp only; exact Nat.ne_of_lt (Nat.lt_of_lt_of_le (by have := World.block_lt_of_cell? _ _ hw471_1; first | rwa [add_block] at this | exact this) GW476.out))) _).trans (hHeld.2.2.2.2.1)))))), ((cell_far (p := ⟨gb476, _, none⟩) (by first | exact Nat.ne_of_lt (Nat.lt_of_lt_of_le (by have := World.block_lt_of_cell? _ _ hw471_2; first | rwa [add_block] at this | exact this) GW476.out) | (rw [add_block]; exact Nat.ne_of_lt (Nat.lt_of_lt_of_le (by have := World.block_lt_of_cell? _ _ hw471_2; first | rwa [add_block] at this | exact this) GW476.out)) | (show (Addr.add _ _).block ≠ _; rw [add_block]; exact Nat.ne_of_lt (Nat.lt_of_lt_of_le (by have := World.block_lt_of_cell? _ _ hw471_2; first | rwa [add_block] at this | exact this) GW476.out)) | (dsimp only; exact Nat.ne_of_lt (Nat.lt_of_lt_of_le (by have := World.block_lt_of_cell? _ _ hw471_2; first | rwa [add_block] at this | exact this) GW476.out))) _).trans (((cell_far (p := ⟨gb476, _, none⟩) (by first | exact Nat.ne_of_lt (Nat.lt_of_lt_of_le (by have := World.block_lt_of_cell? _ _ hw471_2; first | rwa [add_block] at this | exact this) GW476.out) | (rw [add_block]; exact Nat.ne_of_lt (Nat.lt_of_lt_of_le (by have := World.block_lt_of_cell? _ _ hw471_2; first | rwa [add_block] at this | exact this) GW476.out)) | (show (Addr.add _ _).block ≠ _; rw [add_block]; exact Nat.ne_of_lt (Nat.lt_of_lt_of_le (by have := World.block_lt_of_cell? _ _ hw471_2; first | rwa [add_block] at this | exact this) GW476.out)) | (dsimp only; exact Nat.ne_of_lt (Nat.lt_of_lt_of_le (by have := World.block_lt_of_cell? _ _ hw471_2; first | rwa [add_block] at this | exact this) GW476.out))) _).trans (((cell_far (p := ⟨gb476, _, none⟩) (by first | exact Nat.ne_of_lt (Nat.lt_of_lt_of_le (by have := World.block_lt_of_cell? _ _ hw471_2; first | rwa [add_block] at this | exact this) GW476.out) | (rw [add_block]; exact Nat.ne_of_lt (Nat.lt_of_lt_of_le (by have := World.block_lt_of_cell? _ _ hw471_2; first | rwa [add_block] at this | exact this) GW476.out)) | (show (Addr.add _ _).block ≠ _; rw [add_block]; exact Nat.ne_of_lt (Nat.lt_of_lt_of_le (by have := World.block_lt_of_cell? _ _ hw471_2; first | rwa [add_block] at this | exact this) GW476.out)) | (dsimp only; exact Nat.ne_of_lt (Nat.lt_of_lt_of_le (by have := World.block_lt_of_cell? _ _ hw471_2; first | rwa [add_block] at this | exact this) GW476.out))) _).trans (hHeld.2.2.2.2.2))))))⟩ (fun hHeld => ?_)
                    clear hK K
                    refine pure_ (i := 14) (N := some 16) (v := ?_) (a' := ?_) #[true, true, true, true, true, true, true, true, true, true, true, true, true, true, true] rfl rfl (any_of HT_.out (by kernel_rfl)) (fun _ _ _ h => h) (Or.inl ⟨by rfl, ?_⟩) ?_ ?_
                    rotate_left
                    · intro w'
                      go_simp
                      with_reducible rfl
                    rotate_left
                    · simp only [Act.put, List.setIfInBounds_toArray, List.set_cons_zero, List.set_cons_succ, i64_w, i32_w]
                      rfl
                    refine done_ (done_of HT_.out (by kernel_rfl)) ?_
                    try go_wp2
                    go_ret
                    exact ⟨by first | rfl | (simp [errW_none, errW_some] <;> rfl) | (simp [*, errW_none, errW_some] <;> rfl), by repeat (first | (with_reducible first | exact HB.out | apply below_alloc | apply pw_below_drewN | apply below_drew1 | refine below_set ?_ GE476.out) | exact HB.out)⟩
                · rw [if_neg c20] at H
                  exact absurd H (by simp)
              · rw [if_neg c19] at H
                exact absurd H (by simp)
            · rw [if_neg c18] at H
              have c18b0 : decide (x14_2 < (l1.length : Int)) = false := decide_eq_false c18
              clear c18
              replace H := Option.bind_eq_some_iff.mp H
              obtain ⟨⟨t480, t481⟩, A400, H⟩ := H
              replace H : (if t463 = 0 then (if t467 = 0 then (customhouselaw19_LinearSums.j2 k2 t459 ([] : List (S31)) t462 t463 t466 t467 t480 t481 (t481 != 0)) else (customhouselaw19_LinearSums.j2 k2 t459 ([] : List (S31)) t462 t463 t466 t467 t480 t481 true)) else (customhouselaw19_LinearSums.j2 k2 t459 ([] : List (S31)) t462 t463 t466 t467 t480 t481 true)) = some r := H
              have A40 := Aside0.mk A400
              clear A400
              have HC41 := Aside0.mk H
              clear H
              obtain ⟨Ao42, co42, eo42⟩ := Kd.R_slice HO_8.out
              subst eo42
              go_upto_region 15 with (first | ((with_reducible refine gate_callee (f := 12) rfl ?_); refine goesL_ (some 74) rfl rfl Tryz.func12 (by kernel_rfl) rfl #[.slice A0 l0.length c0, .slice Ao42 x8_2.length co42] rfl (by (try simp only [List.map_toArray, List.map_cons, List.map_nil]); first | done | rfl | (simp only [List.length_drop, List.length_take]; rfl)) ?_; (with_reducible refine (linear_Solve.calls _ _ l0 _ _ x8_2 t480 t481 _ ?side5 ?side1 ?side2 ?side3 ?side4 A40.out).mono ?_); (case side1 => repeat (first | exact (Kd.C_below HR0.out HB.out) | (with_reducible refine Kd.C_alloc ?_ _) | (with_reducible refine Kd.C_drewN ?_ _) | (with_reducible refine Kd.C_drew ?_))); (case side2 => exact HC0.out); (case side3 => repeat (first | exact (Kd.R_reads' HO_8.out).2.2 | (with_reducible refine Kd.C_alloc ?_ _) | (with_reducible refine Kd.C_drewN ?_ _) | (with_reducible refine Kd.C_drew ?_))); (case side4 => exact (Kd.R_reads' HO_8.out).2.1); (case side5 => exact Tab.below HTAB.out (by repeat (first | (with_reducible first | exact HB.out | apply below_alloc | apply pw_below_drewN | apply below_drew1) | exact HB.out))); rintro e w43 ⟨v482, rfl, ho0, hb⟩; refine ⟨_, rfl, ?_⟩; have n0_ := Aside0.mk (Kd.R_elder' (by (with_reducible repeat (first | apply Kd.R_alloc | apply Kd.R_drewN | apply Kd.R_drew)); exact HO_8.out) (Kd.R_base ho0) hb); have n1_ := Aside0.mk (Kd.R_elder' (by (with_reducible repeat (first | apply Kd.R_alloc | apply Kd.R_drewN | apply Kd.R_drew)); exact HO_10.out) (Kd.R_base ho0) hb); have n2_ := Aside0.mk (Kd.R_elder' (by (with_reducible repeat (first | apply Kd.R_alloc | apply Kd.R_drewN | apply Kd.R_drew)); exact HO_12.out) (Kd.R_base ho0) hb); have n3_ := Aside0.mk (Kd.R_lower (Kd.R_new' (Kd.R_new' (Kd.R_new' ho0 (Kd.R_lt (by (with_reducible repeat (first | apply Kd.R_alloc | apply Kd.R_drewN | apply Kd.R_drew)); exact HO_8.out))) (Kd.R_lt (by (with_reducible repeat (first | apply Kd.R_alloc | apply Kd.R_drewN | apply Kd.R_drew)); exact HO_10.out))) (Kd.R_lt (by (with_reducible repeat (first | apply Kd.R_alloc | apply Kd.R_drewN | apply Kd.R_drew)); exact HO_12.out))) (below_size (by repeat (first | (with_reducible first | exact HB.out | apply below_alloc | apply pw_below_drewN | apply below_drew1) | exact HB.out)))); have n4_ := Aside0.mk (below_step (by repeat (first | (with_reducible first | exact HB.out | apply below_alloc | apply pw_below_drewN | apply below_drew1) | exact HB.out)) hb); clear HO_8; clear HO_10; clear HO_12; clear HB; have HO_8 := n0_; have HO_10 := n1_; have HO_12 := n2_; have HO483 := n3_; have HB := n4_; clear n0_ n1_ n2_ n3_ n4_; (try clear hb); (try clear hb2); (try clear hk); (try clear hi); (try clear ho0)))
              (try simp only [Act.put, List.setIfInBounds_toArray, List.set_cons_zero, List.set_cons_succ])
              go_cut [86] (fun v86 wc => ∃ (kq : Nat) (x86_40 : Bool), v86 = .bool x86_40 ∧ Aside0 (customhouselaw19_LinearSums.j2 kq t459 ([] : List (S31)) t462 t463 t466 t467 t480 t481 x86_40 = some r) ∧ Aside0 (kq ≤ k2) ∧ Aside0 (Kd.R k31 31 wc w.heap.size (fun k_ => some k_ ≠ (v464 : Value).ownBlock ∧ some k_ ≠ (v468 : Value).ownBlock ∧ some k_ ≠ (v482 : Value).ownBlock) (.slice none 0 0) ([] : List (S31))) ∧ Aside0 (Kd.R k31 31 wc w.heap.size (fun k_ => some k_ ≠ ((.slice none 0 0) : Value).ownBlock ∧ some k_ ≠ (v468 : Value).ownBlock ∧ some k_ ≠ (v482 : Value).ownBlock) v464 t462) ∧ Aside0 (Kd.R k31 31 wc w.heap.size (fun k_ => some k_ ≠ ((.slice none 0 0) : Value).ownBlock ∧ some k_ ≠ (v464 : Value).ownBlock ∧ some k_ ≠ (v482 : Value).ownBlock) v468 t466) ∧ Aside0 (Kd.R k31 31 wc w.heap.size (fun k_ => some k_ ≠ ((.slice none 0 0) : Value).ownBlock ∧ some k_ ≠ (v464 : Value).ownBlock ∧ some k_ ≠ (v468 : Value).ownBlock) v482 t480) ∧ Aside0 (Below w.heap.size w wc))
              case first =>
                have H := HC41.out
                clear HC41
                by_cases c44 : t463 = 0
                · rw [if_pos c44] at H
                  have c44b0 : (t463 == 0) = true := beq_iff_eq.mpr c44
                  have c44b1 : (t463 != 0) = false := bne_eq_false_iff_eq.mpr c44
                  clear c44
                  (first | rw [c44b0] | (simp only [i64_w, i32_w]; rw [c44b0]) | skip)
                  by_cases c45 : t467 = 0
                  · rw [if_pos c45] at H
                    have c45b0 : (t467 == 0) = true := beq_iff_eq.mpr c45
                    have c45b1 : (t467 != 0) = false := bne_eq_false_iff_eq.mpr c45
                    clear c45
                    have H' := Aside0.mk H
                    clear H
                    go_wp2
                    go_meet
                    case rel => exact ⟨_, ((t481 != 0)), (by first | rfl | (simp; done) | (simp [*]; done)), H', ⟨by have := HJ4.out; have := HK2.out; first | omega | exact Nat.le_refl _⟩, ⟨by first | exact Kd.R_nil _ _ _ _ _ | exact Kd.N_nil _ _ _ _ _ | exact Kd.V_nil _ _ _ _ _ | exact Kd.Q_nil _ _ _ _ _ | exact Kd.S_nil _ _ _ _ _⟩, ⟨by (with_reducible repeat (first | apply Kd.R_alloc | apply Kd.R_drewN | apply Kd.R_drew)); exact Kd.R_mono HO_10.out (fun _ hk => ⟨(by simp [Value.ownBlock]), ⟨hk.1.2, hk.2⟩⟩)⟩, ⟨by (with_reducible repeat (first | apply Kd.R_alloc | apply Kd.R_drewN | apply Kd.R_drew)); exact Kd.R_mono HO_12.out (fun _ hk => ⟨(by simp [Value.ownBlock]), ⟨hk.1.2, hk.2⟩⟩)⟩, ⟨by (with_reducible repeat (first | apply Kd.R_alloc | apply Kd.R_drewN | apply Kd.R_drew)); exact Kd.R_mono HO483.out (fun _ hk => ⟨(by simp [Value.ownBlock]), ⟨hk.1.2, hk.2⟩⟩)⟩, ⟨by repeat (first | (with_reducible first | exact HB.out | apply below_alloc | apply pw_below_drewN | apply below_drew1) | exact HB.out)⟩⟩
                  · rw [if_neg c45] at H
                    have c45b0 : (t467 == 0) = false := beq_eq_false_iff_ne.mpr c45
                    have c45b1 : (t467 != 0) = true := bne_iff_ne.mpr c45
                    have H' := Aside0.mk H
                    clear H
                    go_wp2
                    go_meet
                    case rel => exact ⟨_, (true), (by first | rfl | (simp; done) | (simp [*]; done)), H', ⟨by have := HJ4.out; have := HK2.out; first | omega | exact Nat.le_refl _⟩, ⟨by first | exact Kd.R_nil _ _ _ _ _ | exact Kd.N_nil _ _ _ _ _ | exact Kd.V_nil _ _ _ _ _ | exact Kd.Q_nil _ _ _ _ _ | exact Kd.S_nil _ _ _ _ _⟩, ⟨by (with_reducible repeat (first | apply Kd.R_alloc | apply Kd.R_drewN | apply Kd.R_drew)); exact Kd.R_mono HO_10.out (fun _ hk => ⟨(by simp [Value.ownBlock]), ⟨hk.1.2, hk.2⟩⟩)⟩, ⟨by (with_reducible repeat (first | apply Kd.R_alloc | apply Kd.R_drewN | apply Kd.R_drew)); exact Kd.R_mono HO_12.out (fun _ hk => ⟨(by simp [Value.ownBlock]), ⟨hk.1.2, hk.2⟩⟩)⟩, ⟨by (with_reducible repeat (first | apply Kd.R_alloc | apply Kd.R_drewN | apply Kd.R_drew)); exact Kd.R_mono HO483.out (fun _ hk => ⟨(by simp [Value.ownBlock]), ⟨hk.1.2, hk.2⟩⟩)⟩, ⟨by repeat (first | (with_reducible first | exact HB.out | apply below_alloc | apply pw_below_drewN | apply below_drew1) | exact HB.out)⟩⟩
                · rw [if_neg c44] at H
                  have c44b0 : (t463 == 0) = false := beq_eq_false_iff_ne.mpr c44
                  have c44b1 : (t463 != 0) = true := bne_iff_ne.mpr c44
                  (first | rw [c44b0] | (simp only [i64_w, i32_w]; rw [c44b0]) | skip)
                  have H' := Aside0.mk H
                  clear H
                  go_wp2
                  go_meet
                  case rel => exact ⟨_, (true), (by first | rfl | (simp; done) | (simp [*]; done)), H', ⟨by have := HJ4.out; have := HK2.out; first | omega | exact Nat.le_refl _⟩, ⟨by first | exact Kd.R_nil _ _ _ _ _ | exact Kd.N_nil _ _ _ _ _ | exact Kd.V_nil _ _ _ _ _ | exact Kd.Q_nil _ _ _ _ _ | exact Kd.S_nil _ _ _ _ _⟩, ⟨by (with_reducible repeat (first | apply Kd.R_alloc | apply Kd.R_drewN | apply Kd.R_drew)); exact Kd.R_mono HO_10.out (fun _ hk => ⟨(by simp [Value.ownBlock]), ⟨hk.1.2, hk.2⟩⟩)⟩, ⟨by (with_reducible repeat (first | apply Kd.R_alloc | apply Kd.R_drewN | apply Kd.R_drew)); exact Kd.R_mono HO_12.out (fun _ hk => ⟨(by simp [Value.ownBlock]), ⟨hk.1.2, hk.2⟩⟩)⟩, ⟨by (with_reducible repeat (first | apply Kd.R_alloc | apply Kd.R_drewN | apply Kd.R_drew)); exact Kd.R_mono HO483.out (fun _ hk => ⟨(by simp [Value.ownBlock]), ⟨hk.1.2, hk.2⟩⟩)⟩, ⟨by repeat (first | (with_reducible first | exact HB.out | apply below_alloc | apply pw_below_drewN | apply below_drew1) | exact HB.out)⟩⟩
              case rest =>
                clear HC41
                try clear c1
                try clear c2
                try clear p2
                try clear c4
                try clear p4
                try clear q4
                try clear hx4
                try clear p6
                try clear c12
                try clear c18
                try clear c18b0
                try clear c19
                try clear c20
                try clear c22
                try clear c22b0
                try clear c22b1
                try clear c23
                try clear c44
                try clear c44b0
                try clear c44b1
                try clear c45
                try clear c45b0
                try clear c45b1
                try clear hcz31_0
                try clear hcz31_1
                try clear hcz31_2
                try clear hfz31_0
                try clear hfz31_1
                try clear hfz31_2
                try clear hx470_0
                try clear hx470_1
                try clear hx470_2
                try clear hx471_0
                try clear hx471_1
                try clear hx471_2
                try clear p470
                try clear p471
                try clear q470
                try clear q471
                obtain ⟨kq, x86_40, rfl, HA, HJ40, HO_9, HO_10, HO_12, HO_17, HB⟩ := hcut
                cases kq with
                | zero => exact absurd HA.out (by simp [customhouselaw19_LinearSums.j2])
                | succ kj40 =>
                  have H := HA.out
                  clear HA
                  simp only [customhouselaw19_LinearSums.j2] at H
                  by_cases c46 : x86_40 = true
                  · subst c46
                    have H1 : (if t459 = true then (if t463 = 2 then (some true) else (if t467 = 2 then (some true) else (if t481 = 2 then (some true) else (if t463 = t467 then (some (t463 == t481)) else (some false))))) else (some false)) = some r := by rw [if_pos rfl] at H; exact H
                    clear H
                    have H := H1
                    clear H1
                    by_cases c47 : t459 = true
                    · subst c47
                      have H1 : (if t463 = 2 then (some true) else (if t467 = 2 then (some true) else (if t481 = 2 then (some true) else (if t463 = t467 then (some (t463 == t481)) else (some false))))) = some r := by rw [if_pos rfl] at H; exact H
                      clear H
                      have H := H1
                      clear H1
                      by_cases c48 : t463 = 2
                      · rw [if_pos c48] at H
                        have c48b0 : (t463 == 2) = true := beq_iff_eq.mpr c48
                        have c48b1 : (t463 != 2) = false := bne_eq_false_iff_eq.mpr c48
                        clear c48
                        obtain rfl := Option.some.inj H
                        go_wp2
                        go_ret
                        exact ⟨by first | rfl | (simp [errW_none, errW_some] <;> rfl) | (simp [*, errW_none, errW_some] <;> rfl), by repeat (first | (with_reducible first | exact HB.out | apply below_alloc | apply pw_below_drewN | apply below_drew1) | exact HB.out)⟩
                      · rw [if_neg c48] at H
                        have c48b0 : (t463 == 2) = false := beq_eq_false_iff_ne.mpr c48
                        have c48b1 : (t463 != 2) = true := bne_iff_ne.mpr c48
                        by_cases c49 : t467 = 2
                        · rw [if_pos c49] at H
                          have c49b0 : (t467 == 2) = true := beq_iff_eq.mpr c49
                          have c49b1 : (t467 != 2) = false := bne_eq_false_iff_eq.mpr c49
                          clear c49
                          obtain rfl := Option.some.inj H
                          go_wp2
                          go_ret
                          exact ⟨by first | rfl | (simp [errW_none, errW_some] <;> rfl) | (simp [*, errW_none, errW_some] <;> rfl), by repeat (first | (with_reducible first | exact HB.out | apply below_alloc | apply pw_below_drewN | apply below_drew1) | exact HB.out)⟩
                        · rw [if_neg c49] at H
                          have c49b0 : (t467 == 2) = false := beq_eq_false_iff_ne.mpr c49
                          have c49b1 : (t467 != 2) = true := bne_iff_ne.mpr c49
                          by_cases c50 : t481 = 2
                          · rw [if_pos c50] at H
                            have c50b0 : (t481 == 2) = true := beq_iff_eq.mpr c50
                            have c50b1 : (t481 != 2) = false := bne_eq_false_iff_eq.mpr c50
                            clear c50
                            obtain rfl := Option.some.inj H
                            go_wp2
                            go_ret
                            exact ⟨by first | rfl | (simp [errW_none, errW_some] <;> rfl) | (simp [*, errW_none, errW_some] <;> rfl), by repeat (first | (with_reducible first | exact HB.out | apply below_alloc | apply pw_below_drewN | apply below_drew1) | exact HB.out)⟩
                          · rw [if_neg c50] at H
                            have c50b0 : (t481 == 2) = false := beq_eq_false_iff_ne.mpr c50
                            have c50b1 : (t481 != 2) = true := bne_iff_ne.mpr c50
                            by_cases c51 : t463 = t467
                            · rw [if_pos c51] at H
                              have c51b0 : (t463 == t467) = true := beq_iff_eq.mpr c51
                              have c51b1 : (t463 != t467) = false := bne_eq_false_iff_eq.mpr c51
                              clear c51
                              obtain rfl := Option.some.inj H
                              go_wp2
                              go_ret
                              exact ⟨by first | rfl | (simp [errW_none, errW_some] <;> rfl) | (simp [*, errW_none, errW_some] <;> rfl), by repeat (first | (with_reducible first | exact HB.out | apply below_alloc | apply pw_below_drewN | apply below_drew1) | exact HB.out)⟩
                            · rw [if_neg c51] at H
                              have c51b0 : (t463 == t467) = false := beq_eq_false_iff_ne.mpr c51
                              have c51b1 : (t463 != t467) = true := bne_iff_ne.mpr c51
                              obtain rfl := Option.some.inj H
                              go_wp2
                              go_ret
                              exact ⟨by first | rfl | (simp [errW_none, errW_some] <;> rfl) | (simp [*, errW_none, errW_some] <;> rfl), by repeat (first | (with_reducible first | exact HB.out | apply below_alloc | apply pw_below_drewN | apply below_drew1) | exact HB.out)⟩
                    · replace c47 := Bool.eq_false_iff.mpr c47
                      subst c47
                      have H1 : (some false) = some r := by rw [if_neg (show ¬ (false = true) by decide)] at H; exact H
                      clear H
                      have H := H1
                      clear H1
                      obtain rfl := Option.some.inj H
                      go_wp2
                      go_ret
                      exact ⟨by first | rfl | (simp [errW_none, errW_some] <;> rfl) | (simp [*, errW_none, errW_some] <;> rfl), by repeat (first | (with_reducible first | exact HB.out | apply below_alloc | apply pw_below_drewN | apply below_drew1) | exact HB.out)⟩
                  · replace c46 := Bool.eq_false_iff.mpr c46
                    subst c46
                    have H1 : (customhouselaw19_LinearSums.l1 kj40 t459 ([] : List (S31)) t462 t466 t480 0) = some r := by rw [if_neg (show ¬ (false = true) by decide)] at H; exact H
                    clear H
                    have H := H1
                    clear H1
                    have H' := Aside0.mk H
                    clear H
                    go_wp2
                    go_loopg [9, 19] kj40 (fun kq v9 v19 w' => ∃ (x9_4 : List (S31)) (x19_4 : Int), v19 = .int .i64 x19_4 ∧ Aside0 (customhouselaw19_LinearSums.l1 kq t459 x9_4 t462 t466 t480 x19_4 = some r) ∧ Aside0 (kq ≤ kj40) ∧ Aside0 (Kd.R k31 31 w' w.heap.size (fun k_ => some k_ ≠ (v464 : Value).ownBlock ∧ some k_ ≠ (v468 : Value).ownBlock ∧ some k_ ≠ (v482 : Value).ownBlock) v9 x9_4) ∧ Aside0 (Kd.R k31 31 w' w.heap.size (fun k_ => some k_ ≠ (v9 : Value).ownBlock ∧ some k_ ≠ (v468 : Value).ownBlock ∧ some k_ ≠ (v482 : Value).ownBlock) v464 t462) ∧ Aside0 (Kd.R k31 31 w' w.heap.size (fun k_ => some k_ ≠ (v9 : Value).ownBlock ∧ some k_ ≠ (v464 : Value).ownBlock ∧ some k_ ≠ (v482 : Value).ownBlock) v468 t466) ∧ Aside0 (Kd.R k31 31 w' w.heap.size (fun k_ => some k_ ≠ (v9 : Value).ownBlock ∧ some k_ ≠ (v464 : Value).ownBlock ∧ some k_ ≠ (v468 : Value).ownBlock) v482 t480) ∧ Aside0 (Below w.heap.size w w'))
                    case atStart => exact ⟨(([] : List (S31))), (0), (by first | rfl | (simp; done) | (simp [*]; done)), H', ⟨Nat.le_refl _⟩, ⟨by (with_reducible repeat (first | apply Kd.R_alloc | apply Kd.R_drewN | apply Kd.R_drew)); exact HO_9.out⟩, ⟨by (with_reducible repeat (first | apply Kd.R_alloc | apply Kd.R_drewN | apply Kd.R_drew)); exact HO_10.out⟩, ⟨by (with_reducible repeat (first | apply Kd.R_alloc | apply Kd.R_drewN | apply Kd.R_drew)); exact HO_12.out⟩, ⟨by (with_reducible repeat (first | apply Kd.R_alloc | apply Kd.R_drewN | apply Kd.R_drew)); exact HO_17.out⟩, ⟨by repeat (first | (with_reducible first | exact HB.out | apply below_alloc | apply pw_below_drewN | apply below_drew1) | exact HB.out)⟩⟩
                    case round =>
                      clear H'
                      try clear c1
                      try clear c2
                      try clear p2
                      try clear c4
                      try clear p4
                      try clear q4
                      try clear hx4
                      try clear c5
                      try clear p6
                      try clear c12
                      try clear c18
                      try clear c18b0
                      try clear c19
                      try clear c20
                      try clear c22
                      try clear c22b0
                      try clear c22b1
                      try clear c23
                      try clear c44
                      try clear c44b0
                      try clear c44b1
                      try clear c45
                      try clear c45b0
                      try clear c45b1
                      try clear c46
                      try clear c47
                      try clear p47
                      try clear q47
                      try clear hx47
                      try clear c48
                      try clear c48b0
                      try clear c48b1
                      try clear c49
                      try clear c49b0
                      try clear c49b1
                      try clear c50
                      try clear c50b0
                      try clear c50b1
                      try clear c51
                      try clear c51b0
                      try clear c51b1
                      try clear hcz31_0
                      try clear hcz31_1
                      try clear hcz31_2
                      try clear hfz31_0
                      try clear hfz31_1
                      try clear hfz31_2
                      try clear hx470_0
                      try clear hx470_1
                      try clear hx470_2
                      try clear hx471_0
                      try clear hx471_1
                      try clear hx471_2
                      try clear p2
                      try clear p4
                      try clear p470
                      try clear p471
                      try clear p6
                      try clear q4
                      try clear q470
                      try clear q471
                      obtain ⟨x9_4, x19_4, rfl, HA, HK4, HO_9, HO_10, HO_12, HO_17, HB⟩ := hrel
                      cases gk with
                      | zero => exact absurd HA.out (by simp [customhouselaw19_LinearSums.l1])
                      | succ k4 =>
                        have H := HA.out
                        clear HA
                        simp only [customhouselaw19_LinearSums.l1] at H
                        have HC52 := Aside0.mk H
                        clear H
                        go_upto_region 18 with (fail)
                        go_cut [125] (fun v125 wc => ∃ (kq : Nat) (x125_51 : Bool), v125 = .bool x125_51 ∧ Aside0 (customhouselaw19_LinearSums.j4 kq t459 x9_4 t462 t466 t480 x19_4 x125_51 = some r) ∧ Aside0 (kq ≤ k4) ∧ Aside0 (Kd.R k31 31 wc w.heap.size (fun k_ => some k_ ≠ (v464 : Value).ownBlock ∧ some k_ ≠ (v468 : Value).ownBlock ∧ some k_ ≠ (v482 : Value).ownBlock) u9 x9_4) ∧ Aside0 (Kd.R k31 31 wc w.heap.size (fun k_ => some k_ ≠ (u9 : Value).ownBlock ∧ some k_ ≠ (v468 : Value).ownBlock ∧ some k_ ≠ (v482 : Value).ownBlock) v464 t462) ∧ Aside0 (Kd.R k31 31 wc w.heap.size (fun k_ => some k_ ≠ (u9 : Value).ownBlock ∧ some k_ ≠ (v464 : Value).ownBlock ∧ some k_ ≠ (v482 : Value).ownBlock) v468 t466) ∧ Aside0 (Kd.R k31 31 wc w.heap.size (fun k_ => some k_ ≠ (u9 : Value).ownBlock ∧ some k_ ≠ (v464 : Value).ownBlock ∧ some k_ ≠ (v468 : Value).ownBlock) v482 t480) ∧ Aside0 (Below w.heap.size w wc))
                        case first =>
                          have H := HC52.out
                          clear HC52
                          by_cases c53 : x19_4 < (t480.length : Int)
                          · rw [if_pos c53] at H
                            have c53b0 : decide (x19_4 < (t480.length : Int)) = true := decide_eq_true c53
                            clear c53
                            (first | rw [c53b0] | (simp only [i64_w, i32_w]; rw [c53b0]) | skip)
                            by_cases c54 : x19_4 < (t462.length : Int)
                            · rw [if_pos c54] at H
                              have c54b0 : decide (x19_4 < (t462.length : Int)) = true := decide_eq_true c54
                              clear c54
                              have H' := Aside0.mk H
                              clear H
                              obtain ⟨Ao55, co55, eo55⟩ := Kd.R_slice HO_17.out
                              subst eo55
                              obtain ⟨Ao56, co56, eo56⟩ := Kd.R_slice HO_10.out
                              subst eo56
                              obtain ⟨Ao57, co57, eo57⟩ := Kd.R_slice HO_12.out
                              subst eo57
                              go_wp2
                              go_meet
                              case rel => exact ⟨_, (decide (x19_4 < (t466.length : Int))), (by first | rfl | (simp; done) | (simp [*]; done)), H', ⟨by have := HJ4.out; have := HK2.out; have := HJ40.out; have := HK4.out; first | omega | exact Nat.le_refl _⟩, ⟨by (with_reducible repeat (first | apply Kd.R_alloc | apply Kd.R_drewN | apply Kd.R_drew)); exact HO_9.out⟩, ⟨by (with_reducible repeat (first | apply Kd.R_alloc | apply Kd.R_drewN | apply Kd.R_drew)); exact HO_10.out⟩, ⟨by (with_reducible repeat (first | apply Kd.R_alloc | apply Kd.R_drewN | apply Kd.R_drew)); exact HO_12.out⟩, ⟨by (with_reducible repeat (first | apply Kd.R_alloc | apply Kd.R_drewN | apply Kd.R_drew)); exact HO_17.out⟩, ⟨by repeat (first | (with_reducible first | exact HB.out | apply below_alloc | apply pw_below_drewN | apply below_drew1) | exact HB.out)⟩⟩
                            · rw [if_neg c54] at H
                              have c54b0 : decide (x19_4 < (t462.length : Int)) = false := decide_eq_false c54
                              clear c54
                              have H' := Aside0.mk H
                              clear H
                              obtain ⟨Ao58, co58, eo58⟩ := Kd.R_slice HO_17.out
                              subst eo58
                              obtain ⟨Ao59, co59, eo59⟩ := Kd.R_slice HO_10.out
                              subst eo59
                              go_wp2
                              go_meet
                              case rel => exact ⟨_, (false), (by first | rfl | (simp; done) | (simp [*]; done)), H', ⟨by have := HJ4.out; have := HK2.out; have := HJ40.out; have := HK4.out; first | omega | exact Nat.le_refl _⟩, ⟨by (with_reducible repeat (first | apply Kd.R_alloc | apply Kd.R_drewN | apply Kd.R_drew)); exact HO_9.out⟩, ⟨by (with_reducible repeat (first | apply Kd.R_alloc | apply Kd.R_drewN | apply Kd.R_drew)); exact HO_10.out⟩, ⟨by (with_reducible repeat (first | apply Kd.R_alloc | apply Kd.R_drewN | apply Kd.R_drew)); exact HO_12.out⟩, ⟨by (with_reducible repeat (first | apply Kd.R_alloc | apply Kd.R_drewN | apply Kd.R_drew)); exact HO_17.out⟩, ⟨by repeat (first | (with_reducible first | exact HB.out | apply below_alloc | apply pw_below_drewN | apply below_drew1) | exact HB.out)⟩⟩
                          · rw [if_neg c53] at H
                            have c53b0 : decide (x19_4 < (t480.length : Int)) = false := decide_eq_false c53
                            clear c53
                            (first | rw [c53b0] | (simp only [i64_w, i32_w]; rw [c53b0]) | skip)
                            have H' := Aside0.mk H
                            clear H
                            obtain ⟨Ao60, co60, eo60⟩ := Kd.R_slice HO_17.out
                            subst eo60
                            go_wp2
                            go_meet
                            case rel => exact ⟨_, (false), (by first | rfl | (simp; done) | (simp [*]; done)), H', ⟨by have := HJ4.out; have := HK2.out; have := HJ40.out; have := HK4.out; first | omega | exact Nat.le_refl _⟩, ⟨by (with_reducible repeat (first | apply Kd.R_alloc | apply Kd.R_drewN | apply Kd.R_drew)); exact HO_9.out⟩, ⟨by (with_reducible repeat (first | apply Kd.R_alloc | apply Kd.R_drewN | apply Kd.R_drew)); exact HO_10.out⟩, ⟨by (with_reducible repeat (first | apply Kd.R_alloc | apply Kd.R_drewN | apply Kd.R_drew)); exact HO_12.out⟩, ⟨by (with_reducible repeat (first | apply Kd.R_alloc | apply Kd.R_drewN | apply Kd.R_drew)); exact HO_17.out⟩, ⟨by repeat (first | (with_reducible first | exact HB.out | apply below_alloc | apply pw_below_drewN | apply below_drew1) | exact HB.out)⟩⟩
                        case rest =>
                          clear HC52
                          try clear c1
                          try clear c2
                          try clear p2
                          try clear c4
                          try clear p4
                          try clear q4
                          try clear hx4
                          try clear c5
                          try clear p6
                          try clear c12
                          try clear c18
                          try clear c18b0
                          try clear c19
                          try clear c20
                          try clear c22
                          try clear c22b0
                          try clear c22b1
                          try clear c23
                          try clear c44
                          try clear c44b0
                          try clear c44b1
                          try clear c45
                          try clear c45b0
                          try clear c45b1
                          try clear c46
                          try clear c47
                          try clear p47
                          try clear q47
                          try clear hx47
                          try clear c48
                          try clear c48b0
                          try clear c48b1
                          try clear c49
                          try clear c49b0
                          try clear c49b1
                          try clear c50
                          try clear c50b0
                          try clear c50b1
                          try clear c51
                          try clear c51b0
                          try clear c51b1
                          try clear c53
                          try clear c53b0
                          try clear c54
                          try clear c54b0
                          try clear hcz31_0
                          try clear hcz31_1
                          try clear hcz31_2
                          try clear hfz31_0
                          try clear hfz31_1
                          try clear hfz31_2
                          try clear hx470_0
                          try clear hx470_1
                          try clear hx470_2
                          try clear hx471_0
                          try clear hx471_1
                          try clear hx471_2
                          try clear p2
                          try clear p4
                          try clear p47
                          try clear p470
                          try clear p471
                          try clear p6
                          try clear q4
                          try clear q47
                          try clear q470
                          try clear q471
                          obtain ⟨kq, x125_51, rfl, HA, HJ51, HO_9, HO_10, HO_12, HO_17, HB⟩ := hcut
                          cases kq with
                          | zero => exact absurd HA.out (by simp [customhouselaw19_LinearSums.j4])
                          | succ kj51 =>
                            have H := HA.out
                            clear HA
                            simp only [customhouselaw19_LinearSums.j4] at H
                            by_cases c61 : x125_51 = true
                            · subst c61
                              have H1 : (if 0 ≤ x19_4 then (if x19_4 < (t462.length : Int) then (if x19_4 < (t466.length : Int) then ((ratio_Add.f ((rd_T31 t462 x19_4).f0) ((rd_T31 t462 x19_4).f1) ((rd_T31 t462 x19_4).f2) ((rd_T31 t466 x19_4).f0) ((rd_T31 t466 x19_4).f1) ((rd_T31 t466 x19_4).f2)).bind fun bt486 => (if bt486.2.2.2 = 0 then (if x9_4.length < 3518437208883 then (customhouselaw19_LinearSums.l1 kj51 t459 (x9_4 ++ [(⟨bt486.1, bt486.2.1, bt486.2.2.1⟩ : S31)]) t462 t466 t480 (wrap64 (x19_4 + 1))) else (none)) else (some t459))) else (none)) else (none)) else (none)) = some r := by rw [if_pos rfl] at H; exact H
                              clear H
                              have H := H1
                              clear H1
                              by_cases c62 : 0 ≤ x19_4
                              · rw [if_pos c62] at H
                                have c62b0 : decide (0 ≤ x19_4) = true := decide_eq_true c62
                                clear c62
                                by_cases c63 : x19_4 < (t462.length : Int)
                                · rw [if_pos c63] at H
                                  have c63b0 : decide (x19_4 < (t462.length : Int)) = true := decide_eq_true c63
                                  clear c63
                                  by_cases c64 : x19_4 < (t466.length : Int)
                                  · rw [if_pos c64] at H
                                    have c64b0 : decide (x19_4 < (t466.length : Int)) = true := decide_eq_true c64
                                    clear c64
                                    replace H := Option.bind_eq_some_iff.mp H
                                    obtain ⟨⟨t486, t487, t488, t489⟩, A650, H⟩ := H
                                    replace H : (if t489 = 0 then (if x9_4.length < 3518437208883 then (customhouselaw19_LinearSums.l1 kj51 t459 (x9_4 ++ [(⟨t486, t487, t488⟩ : S31)]) t462 t466 t480 (wrap64 (x19_4 + 1))) else (none)) else (some t459)) = some r := H
                                    have A65 := Aside0.mk A650
                                    clear A650
                                    by_cases c66 : t489 = 0
                                    · rw [if_pos c66] at H
                                      have c66b0 : (t489 == 0) = true := beq_iff_eq.mpr c66
                                      have c66b1 : (t489 != 0) = false := bne_eq_false_iff_eq.mpr c66
                                      clear c66
                                      by_cases c67 : x9_4.length < 3518437208883
                                      · rw [if_pos c67] at H
                                        have LMc67 := Aside0.mk c67
                                        clear c67
                                        obtain ⟨y491, hy491⟩ : ∃ y_ : List (S31), y_ = (x9_4 ++ [(⟨t486, t487, t488⟩ : S31)]) := ⟨_, rfl⟩
                                        replace H : (customhouselaw19_LinearSums.l1 kj51 t459 y491 t462 t466 t480 (wrap64 (x19_4 + 1))) = some r := by first | (rw [hy491]; with_reducible exact H) | (have H2_ := (Option.bind_some _ _).symm.trans H; rw [hy491]; with_reducible exact H2_) | (have H2_ := (Option.bind_some _ _).symm.trans H; with_reducible exact H2_) | with_reducible exact H | (rw [hy491]; exact H) | exact H
                                        have Ny491 := Aside0.mk hy491
                                        clear hy491
                                        have H' := Aside0.mk H
                                        clear H
                                        try go_wp2
                                        have n0_ := Aside0.mk (Kd.R_drew HO_9.out)
                                        have n1_ := Aside0.mk (Kd.R_drew HO_10.out)
                                        have n2_ := Aside0.mk (Kd.R_drew HO_12.out)
                                        have n3_ := Aside0.mk (Kd.R_drew HO_17.out)
                                        have n4_ := Aside0.mk (below_drew1 HB.out)
                                        clear HO_9
                                        clear HO_10
                                        clear HO_12
                                        clear HO_17
                                        clear HB
                                        have HO_9 := n0_
                                        have HO_10 := n1_
                                        have HO_12 := n2_
                                        have HO_17 := n3_
                                        have HB := n4_
                                        clear n0_ n1_ n2_ n3_ n4_
                                        obtain ⟨Ao69, co69, eo69⟩ := Kd.R_slice HO_10.out
                                        (first | subst eo69 | (injection eo69 with f1_ f2_ f3_; have f4_ := f1_.symm; have f5_ := f3_.symm; clear f1_ f2_ f3_; subst f4_; subst f5_))
                                        have p484 : 0 ≤ (x19_4 : Int) := of_decide_eq_true (by first | (with_reducible assumption) | assumption)
                                        have q484 : x19_4 < (t462.length : Int) := of_decide_eq_true (by first | (with_reducible assumption) | assumption)
                                        obtain ⟨ad484, e484, hx484_0, hx484_1, hx484_2⟩ := at_T31 (Kd.R_reads' HO_10.out).2.2 x19_4 p484 q484
                                        cases e484
                                        replace p484 := eq_true p484
                                        replace q484 := eq_true q484
                                        obtain ⟨Ao70, co70, eo70⟩ := Kd.R_slice HO_12.out
                                        (first | subst eo70 | (injection eo70 with f1_ f2_ f3_; have f4_ := f1_.symm; have f5_ := f3_.symm; clear f1_ f2_ f3_; subst f4_; subst f5_))
                                        have p485 : 0 ≤ (x19_4 : Int) := of_decide_eq_true (by first | (with_reducible assumption) | assumption)
                                        have q485 : x19_4 < (t466.length : Int) := of_decide_eq_true (by first | (with_reducible assumption) | assumption)
                                        obtain ⟨ad485, e485, hx485_0, hx485_1, hx485_2⟩ := at_T31 (Kd.R_reads' HO_12.out).2.2 x19_4 p485 q485
                                        cases e485
                                        replace p485 := eq_true p485
                                        replace q485 := eq_true q485
                                        refine start_ (n := 15) (S := fun w' => w'.cell? (ad484.add ((x19_4).toNat * 3)) = some (.bool ((rd_T31 t462 x19_4).f0)) ∧ w'.cell? ⟨(ad484.add ((x19_4).toNat * 3)).block, (ad484.add ((x19_4).toNat * 3)).off + 1, none⟩ = some (.string ((rd_T31 t462 x19_4).f1)) ∧ w'.cell? ⟨(ad484.add ((x19_4).toNat * 3)).block, (ad484.add ((x19_4).toNat * 3)).off + 2, none⟩ = some (.string ((rd_T31 t462 x19_4).f2)) ∧ w'.cell? (ad485.add ((x19_4).toNat * 3)) = some (.bool ((rd_T31 t466 x19_4).f0)) ∧ w'.cell? ⟨(ad485.add ((x19_4).toNat * 3)).block, (ad485.add ((x19_4).toNat * 3)).off + 1, none⟩ = some (.string ((rd_T31 t466 x19_4).f1)) ∧ w'.cell? ⟨(ad485.add ((x19_4).toNat * 3)).block, (ad485.add ((x19_4).toNat * 3)).off + 2, none⟩ = some (.string ((rd_T31 t466 x19_4).f2))) (ds := []) #[false, false, false, false, false, false, false, false, false, false, false, false, false, false, false] (by kernel_rfl) rfl rfl ⟨hx484_0, hx484_1, hx484_2, hx485_0, hx485_1, hx485_2⟩ (fun hHeld => ?_); refine with_tabW customhouselaw19_LinearSums.tab20 customhouselaw19_LinearSums.bits20 (fun HT_ HW_ => ?_)
                                        generalize wc.drew = w68 at HO_9 HO_10 HO_12 HO_17 HB hx484_0 hx484_1 hx484_2 hx485_0 hx485_1 hx485_2 hHeld ⊢
                                        refine pure_ (i := 0) (N := some 129) (v := ?_) (a' := ?_) #[true, false, false, false, false, false, false, false, false, false, false, false, false, false, false] rfl rfl (any_of HT_.out (by kernel_rfl)) (fun _ _ _ h => h) (Or.inl ⟨by rfl, ?_⟩) ?_ ?_
                                        rotate_left
                                        · intro w'
                                          go_simp
                                          with_reducible rfl
                                        rotate_left
                                        · simp only [Act.put, List.setIfInBounds_toArray, List.set_cons_zero, List.set_cons_succ, i64_w, i32_w]
                                          rfl
                                        refine pure_ (i := 1) (N := some 130) (v := ?_) (a' := ?_) #[true, true, false, false, false, false, false, false, false, false, false, false, false, false, false] rfl rfl (any_of HT_.out (by kernel_rfl)) (fun _ _ _ h => h) (Or.inl ⟨by rfl, ?_⟩) ?_ ?_
                                        rotate_left
                                        · intro w'
                                          go_simp
                                          with_reducible rfl
                                        rotate_left
                                        · simp only [Act.put, List.setIfInBounds_toArray, List.set_cons_zero, List.set_cons_succ, i64_w, i32_w]
                                          rfl
                                        refine pure_ (i := 2) (N := some 131) (v := ?_) (a' := ?_) #[true, true, true, false, false, false, false, false, false, false, false, false, false, false, false] rfl rfl (any_of HT_.out (by kernel_rfl)) (fun _ _ _ h => h) (Or.inl ⟨by rfl, ?_⟩) ?_ ?_
                                        rotate_left
                                        · intro w'
                                          go_simp
                                          with_reducible rfl
                                        rotate_left
                                        · simp only [Act.put, List.setIfInBounds_toArray, List.set_cons_zero, List.set_cons_succ, i64_w, i32_w]
                                          rfl
                                        refine pure_ (i := 4) (N := some 133) (v := ?_) (a' := ?_) #[true, true, true, false, true, false, false, false, false, false, false, false, false, false, false] rfl rfl (any_of HT_.out (by kernel_rfl)) (fun _ _ _ h => h) (Or.inl ⟨by rfl, ?_⟩) ?_ ?_
                                        rotate_left
                                        · intro w'
                                          go_simp
                                          with_reducible rfl
                                        rotate_left
                                        · simp only [Act.put, List.setIfInBounds_toArray, List.set_cons_zero, List.set_cons_succ, i64_w, i32_w]
                                          rfl
                                        refine pure_ (i := 5) (N := some 134) (v := ?_) (a' := ?_) #[true, true, true, false, true, true, false, false, false, false, false, false, false, false, false] rfl rfl (any_of HT_.out (by kernel_rfl)) (fun _ _ _ h => h) (Or.inl ⟨by rfl, ?_⟩) ?_ ?_
                                        rotate_left
                                        · intro w'
                                          go_simp
                                          with_reducible rfl
                                        rotate_left
                                        · simp only [Act.put, List.setIfInBounds_toArray, List.set_cons_zero, List.set_cons_succ, i64_w, i32_w]
                                          rfl
                                        refine pure_ (i := 6) (N := some 135) (v := ?_) (a' := ?_) #[true, true, true, false, true, true, true, false, false, false, false, false, false, false, false] rfl rfl (any_of HT_.out (by kernel_rfl)) (fun _ _ _ h => h) (Or.inl ⟨by rfl, ?_⟩) ?_ ?_
                                        rotate_left
                                        · intro w'
                                          go_simp
                                          with_reducible rfl
                                        rotate_left
                                        · simp only [Act.put, List.setIfInBounds_toArray, List.set_cons_zero, List.set_cons_succ, i64_w, i32_w]
                                          rfl
                                        refine take_ (i := 3) (N := some 132) (v := ?_) (a' := ?_) #[true, true, true, true, true, true, true, false, false, false, false, false, false, false, false] rfl rfl (take_ofW HT_.out HW_.out (by kernel_rfl)) (fun _ _ _ h => h) (Or.inl ⟨by rfl, ?_⟩) hHeld ?_ ?_
                                        rotate_left
                                        · rintro w' ⟨s0, s1, s2, s3, s4, s5⟩
                                          go_simp
                                          with_reducible rfl
                                        rotate_left
                                        · simp only [Act.put, List.setIfInBounds_toArray, List.set_cons_zero, List.set_cons_succ, i64_w, i32_w]
                                          rfl
                                        refine take_ (i := 7) (N := some 136) (v := ?_) (a' := ?_) #[true, true, true, true, true, true, true, true, false, false, false, false, false, false, false] rfl rfl (take_ofW HT_.out HW_.out (by kernel_rfl)) (fun _ _ _ h => h) (Or.inl ⟨by rfl, ?_⟩) hHeld ?_ ?_
                                        rotate_left
                                        · rintro w' ⟨s0, s1, s2, s3, s4, s5⟩
                                          go_simp
                                          with_reducible rfl
                                        rotate_left
                                        · simp only [Act.put, List.setIfInBounds_toArray, List.set_cons_zero, List.set_cons_succ, i64_w, i32_w]
                                          rfl
                                        refine join_ (σ := Nat) 2 #[true, true, true, true, true, true, true, true, true, true, true, true, true, false, false] (fun s_ => [(137, .tuple #[.agg #[.bool t486, .string t487, .string t488], .int .i64 t489]), (20, .pointer (some ⟨s_, 0, none⟩)), (128, .tuple #[.agg #[.bool t486, .string t487, .string t488], .int .i64 t489]), (138, .agg #[.bool t486, .string t487, .string t488]), (139, .int .i64 t489)]) (fun s_ w' => (w'.cell? (ad484.add ((x19_4).toNat * 3)) = some (.bool ((rd_T31 t462 x19_4).f0)) ∧ w'.cell? ⟨(ad484.add ((x19_4).toNat * 3)).block, (ad484.add ((x19_4).toNat * 3)).off + 1, none⟩ = some (.string ((rd_T31 t462 x19_4).f1)) ∧ w'.cell? ⟨(ad484.add ((x19_4).toNat * 3)).block, (ad484.add ((x19_4).toNat * 3)).off + 2, none⟩ = some (.string ((rd_T31 t462 x19_4).f2)) ∧ w'.cell? (ad485.add ((x19_4).toNat * 3)) = some (.bool ((rd_T31 t466 x19_4).f0)) ∧ w'.cell? ⟨(ad485.add ((x19_4).toNat * 3)).block, (ad485.add ((x19_4).toNat * 3)).off + 1, none⟩ = some (.string ((rd_T31 t466 x19_4).f1)) ∧ w'.cell? ⟨(ad485.add ((x19_4).toNat * 3)).block, (ad485.add ((x19_4).toNat * 3)).off + 2, none⟩ = some (.string ((rd_T31 t466 x19_4).f2))) ∧ (Kd.R k31 31 w' w.heap.size (fun k_ => some k_ ≠ (.slice (some ad485) t466.length co70 : Value).ownBlock ∧ some k_ ≠ (v482 : Value).ownBlock ∧ some k_ ≠ (u9 : Value).ownBlock ∧ k_ ≠ s_) (.slice (some ad484) t462.length co69) t462) ∧ (Kd.R k31 31 w' w.heap.size (fun k_ => some k_ ≠ (.slice (some ad484) t462.length co69 : Value).ownBlock ∧ some k_ ≠ (v482 : Value).ownBlock ∧ some k_ ≠ (u9 : Value).ownBlock ∧ k_ ≠ s_) (.slice (some ad485) t466.length co70) t466) ∧ (Kd.R k31 31 w' w.heap.size (fun k_ => some k_ ≠ (.slice (some ad484) t462.length co69 : Value).ownBlock ∧ some k_ ≠ (.slice (some ad485) t466.length co70 : Value).ownBlock ∧ some k_ ≠ (u9 : Value).ownBlock ∧ k_ ≠ s_) v482 t480) ∧ (Kd.R k31 31 w' w.heap.size (fun k_ => some k_ ≠ (.slice (some ad484) t462.length co69 : Value).ownBlock ∧ some k_ ≠ (.slice (some ad485) t466.length co70 : Value).ownBlock ∧ some k_ ≠ (v482 : Value).ownBlock ∧ k_ ≠ s_) u9 x9_4) ∧ (w'.heap[s_]? = some (.cells #[.bool false, .string (⟨#[]⟩ : ByteArray), .string (⟨#[]⟩ : ByteArray)] 31 (0, 0))) ∧ (w.heap.size ≤ s_) ∧ (w.heap.size ≤ s_) ∧ (Below w.heap.size w w')) ?_ ?_
                                        rotate_left
                                        · intro hCont
                                          refine two_ (i := 8) (j := 12) (Ni := some 137) (Nj := some 20) #[true, true, true, true, true, true, true, true, true, false, false, false, false, false, false] #[true, true, true, true, true, true, true, true, false, false, false, false, true, false, false] rfl rfl rfl rfl (two_of HT_.out (by kernel_rfl)) (by decide) (by decide) (fun K hK => ?_) (fun K hK => ?_)
                                          · skip
                                            refine goes_ Tryz.func22 (by kernel_rfl) rfl #[.agg #[.bool ((rd_T31 t462 x19_4).f0), .string ((rd_T31 t462 x19_4).f1), .string ((rd_T31 t462 x19_4).f2)], .agg #[.bool ((rd_T31 t466 x19_4).f0), .string ((rd_T31 t466 x19_4).f1), .string ((rd_T31 t466 x19_4).f2)]] (by rfl) rfl rfl (by (try simp only [List.map_toArray, List.map_cons, List.map_nil]); first | done | rfl | (simp only [List.length_drop, List.length_take]; rfl)) ?_
                                            with_reducible refine (ratio_Add.calls ((rd_T31 t462 x19_4).f0) ((rd_T31 t462 x19_4).f1) ((rd_T31 t462 x19_4).f2) ((rd_T31 t466 x19_4).f0) ((rd_T31 t466 x19_4).f1) ((rd_T31 t466 x19_4).f2) t486 t487 t488 t489 _ ?side1 A65.out).mono ?_
                                            (case side1 => exact Tab.below HTAB.out (by repeat (first | (with_reducible first | exact HB.out | apply below_alloc | apply pw_below_drewN | apply below_drew1) | exact HB.out)))
                                            rintro e w71 ⟨rfl, hb⟩
                                            have HS0_ := (hb.cell (World.block_lt_of_cell? _ _ (hHeld.1))).trans (hHeld.1)
                                            have HS1_ := (hb.cell (World.block_lt_of_cell? _ _ (hHeld.2.1))).trans (hHeld.2.1)
                                            have HS2_ := (hb.cell (World.block_lt_of_cell? _ _ (hHeld.2.2.1))).trans (hHeld.2.2.1)
                                            have HS3_ := (hb.cell (World.block_lt_of_cell? _ _ (hHeld.2.2.2.1))).trans (hHeld.2.2.2.1)
                                            have HS4_ := (hb.cell (World.block_lt_of_cell? _ _ (hHeld.2.2.2.2.1))).trans (hHeld.2.2.2.2.1)
                                            have HS5_ := (hb.cell (World.block_lt_of_cell? _ _ (hHeld.2.2.2.2.2))).trans (hHeld.2.2.2.2.2)
                                            refine ⟨_, rfl, ?_⟩
                                            have n0_ := Aside0.mk (Kd.R_below (by (with_reducible repeat (first | apply Kd.R_alloc | apply Kd.R_drewN | apply Kd.R_drew)); exact HO_9.out) hb)
                                            have n1_ := Aside0.mk (Kd.R_below (by (with_reducible repeat (first | apply Kd.R_alloc | apply Kd.R_drewN | apply Kd.R_drew)); exact HO_10.out) hb)
                                            have n2_ := Aside0.mk (Kd.R_below (by (with_reducible repeat (first | apply Kd.R_alloc | apply Kd.R_drewN | apply Kd.R_drew)); exact HO_12.out) hb)
                                            have n3_ := Aside0.mk (Kd.R_below (by (with_reducible repeat (first | apply Kd.R_alloc | apply Kd.R_drewN | apply Kd.R_drew)); exact HO_17.out) hb)
                                            have n4_ := Aside0.mk (below_step (by repeat (first | (with_reducible first | exact HB.out | apply below_alloc | apply pw_below_drewN | apply below_drew1) | exact HB.out)) hb)
                                            clear HO_9
                                            clear HO_10
                                            clear HO_12
                                            clear HO_17
                                            clear HB
                                            have HO_9 := n0_
                                            have HO_10 := n1_
                                            have HO_12 := n2_
                                            have HO_17 := n3_
                                            have HB := n4_
                                            clear n0_ n1_ n2_ n3_ n4_
                                            (try clear hb)
                                            (try clear hb2)
                                            (try clear hk)
                                            (try clear hi)
                                            refine hK.out _ _ ⟨HS0_, HS1_, HS2_, HS3_, HS4_, HS5_⟩ (fun hHeld => ?_)
                                            clear hK K
                                            refine norm_ (a' := ?_) ?_ ?_
                                            rotate_left
                                            · show Act.put _ (some 137) _ = _
                                              simp only [Act.put, List.setIfInBounds_toArray, List.set_cons_zero, List.set_cons_succ, i64_w, i32_w]
                                              rfl
                                            refine pure_ (i := 9) (N := some 128) (v := ?_) (a' := ?_) #[true, true, true, true, true, true, true, true, true, true, false, false, false, false, false] rfl rfl (any_of HT_.out (by kernel_rfl)) (fun _ _ _ h => h) (Or.inl ⟨by rfl, ?_⟩) ?_ ?_
                                            rotate_left
                                            · intro w'
                                              go_simp
                                              with_reducible rfl
                                            rotate_left
                                            · simp only [Act.put, List.setIfInBounds_toArray, List.set_cons_zero, List.set_cons_succ, i64_w, i32_w]
                                              rfl
                                            refine pure_ (i := 10) (N := some 138) (v := ?_) (a' := ?_) #[true, true, true, true, true, true, true, true, true, true, true, false, false, false, false] rfl rfl (any_of HT_.out (by kernel_rfl)) (fun _ _ _ h => h) (Or.inl ⟨by rfl, ?_⟩) ?_ ?_
                                            rotate_left
                                            · intro w'
                                              go_simp
                                              with_reducible rfl
                                            rotate_left
                                            · simp only [Act.put, List.setIfInBounds_toArray, List.set_cons_zero, List.set_cons_succ, i64_w, i32_w]
                                              rfl
                                            refine pure_ (i := 11) (N := some 139) (v := ?_) (a' := ?_) #[true, true, true, true, true, true, true, true, true, true, true, true, false, false, false] rfl rfl (any_of HT_.out (by kernel_rfl)) (fun _ _ _ h => h) (Or.inl ⟨by rfl, ?_⟩) ?_ ?_
                                            rotate_left
                                            · intro w'
                                              go_simp
                                              with_reducible rfl
                                            rotate_left
                                            · simp only [Act.put, List.setIfInBounds_toArray, List.set_cons_zero, List.set_cons_succ, i64_w, i32_w]
                                              rfl
                                            refine one_ (i := 12) (N := some 20) #[true, true, true, true, true, true, true, true, true, true, true, true, true, false, false] rfl rfl (one_of HT_.out (by kernel_rfl)) (by decide) (fun K hK => ?_)
                                            refine box_step ?hg (N := 20) ?hd (cs := #[.bool false, .string (⟨#[]⟩ : ByteArray), .string (⟨#[]⟩ : ByteArray)]) (t := 31) ?hr ?_; (case hd => rfl); (case hg => rfl); (case hr => first | (go_simp; done) | (go_simp; rfl))
                                            intro gb490 hg w72 hbox hb
                                            have HS0_ := (hb.cell (World.block_lt_of_cell? _ _ (hHeld.1))).trans (hHeld.1)
                                            have HS1_ := (hb.cell (World.block_lt_of_cell? _ _ (hHeld.2.1))).trans (hHeld.2.1)
                                            have HS2_ := (hb.cell (World.block_lt_of_cell? _ _ (hHeld.2.2.1))).trans (hHeld.2.2.1)
                                            have HS3_ := (hb.cell (World.block_lt_of_cell? _ _ (hHeld.2.2.2.1))).trans (hHeld.2.2.2.1)
                                            have HS4_ := (hb.cell (World.block_lt_of_cell? _ _ (hHeld.2.2.2.2.1))).trans (hHeld.2.2.2.2.1)
                                            have HS5_ := (hb.cell (World.block_lt_of_cell? _ _ (hHeld.2.2.2.2.2))).trans (hHeld.2.2.2.2.2)
                                            have n0_ := Aside0.mk (Kd.R_below (Kd.R_elderB (by (with_reducible repeat (first | apply Kd.R_alloc | apply Kd.R_drewN | apply Kd.R_drew)); exact HO_9.out) gb490 (Nat.le_of_eq hg.symm)) hb)
                                            have n1_ := Aside0.mk (Kd.R_below (Kd.R_elderB (by (with_reducible repeat (first | apply Kd.R_alloc | apply Kd.R_drewN | apply Kd.R_drew)); exact HO_10.out) gb490 (Nat.le_of_eq hg.symm)) hb)
                                            have n2_ := Aside0.mk (Kd.R_below (Kd.R_elderB (by (with_reducible repeat (first | apply Kd.R_alloc | apply Kd.R_drewN | apply Kd.R_drew)); exact HO_12.out) gb490 (Nat.le_of_eq hg.symm)) hb)
                                            have n3_ := Aside0.mk (Kd.R_below (Kd.R_elderB (by (with_reducible repeat (first | apply Kd.R_alloc | apply Kd.R_drewN | apply Kd.R_drew)); exact HO_17.out) gb490 (Nat.le_of_eq hg.symm)) hb)
                                            have n4_ := Aside0.mk (below_step (by repeat (first | (with_reducible first | exact HB.out | apply below_alloc | apply pw_below_drewN | apply below_drew1) | exact HB.out)) hb)
                                            have n5_ := Aside0.mk (hbox)
                                            have n6_ := Aside0.mk ((by rw [hg]; exact (below_size (by repeat (first | (with_reducible first | exact HB.out | apply below_alloc | apply pw_below_drewN | apply below_drew1) | exact HB.out))) : w.heap.size ≤ gb490))
                                            have n7_ := Aside0.mk ((by rw [hg]; exact (below_size (by repeat (first | (with_reducible first | exact HB.out | apply below_alloc | apply pw_below_drewN | apply below_drew1) | exact HB.out))) : w.heap.size ≤ gb490))
                                            clear HO_9
                                            clear HO_10
                                            clear HO_12
                                            clear HO_17
                                            clear HB
                                            have HO_9 := n0_
                                            have HO_10 := n1_
                                            have HO_12 := n2_
                                            have HO_17 := n3_
                                            have HB := n4_
                                            have BK490 := n5_
                                            have GW490 := n6_
                                            have GE490 := n7_
                                            clear n0_ n1_ n2_ n3_ n4_ n5_ n6_ n7_
                                            clear hb hbox hg
                                            refine hK.out _ _ ⟨HS0_, HS1_, HS2_, HS3_, HS4_, HS5_⟩ (fun hHeld => ?_)
                                            clear hK K
                                            refine norm_ (a' := ?_) ?_ ?_
                                            rotate_left
                                            · show Act.put _ (some 20) _ = _
                                              simp only [Act.put, List.setIfInBounds_toArray, List.set_cons_zero, List.set_cons_succ, i64_w, i32_w]
                                              rfl
                                            exact norm_ (by simp only [putAll, Act.put, List.setIfInBounds_toArray, List.set_cons_zero, List.set_cons_succ]) (hCont (gb490) _ ⟨hHeld, (by (with_reducible repeat (first | apply Kd.R_alloc | apply Kd.R_drewN | apply Kd.R_drew)); exact Kd.R_mono HO_10.out (fun _ hk => ⟨hk.1.2.1, ⟨hk.1.2.2, ⟨hk.1.1, hk.2⟩⟩⟩)), (by (with_reducible repeat (first | apply Kd.R_alloc | apply Kd.R_drewN | apply Kd.R_drew)); exact Kd.R_mono HO_12.out (fun _ hk => ⟨hk.1.2.1, ⟨hk.1.2.2, ⟨hk.1.1, hk.2⟩⟩⟩)), (by (with_reducible repeat (first | apply Kd.R_alloc | apply Kd.R_drewN | apply Kd.R_drew)); exact Kd.R_mono HO_17.out (fun _ hk => ⟨hk.1.2.1, ⟨hk.1.2.2, ⟨hk.1.1, hk.2⟩⟩⟩)), (by (with_reducible repeat (first | apply Kd.R_alloc | apply Kd.R_drewN | apply Kd.R_drew)); exact Kd.R_mono HO_9.out (fun _ hk => ⟨hk.1.1, ⟨hk.1.2.1, ⟨hk.1.2.2, hk.2⟩⟩⟩)), (by (with_reducible repeat (first | refine blk_drewN ?_ _ | refine blk_drew ?_ | refine blk_alloc ?_ _)); exact BK490.out), GW490.out, GE490.out, (by repeat (first | (with_reducible first | exact HB.out | apply below_alloc | apply pw_below_drewN | apply below_drew1 | refine below_set ?_ GE490.out) | exact HB.out))⟩)
                                          · skip
                                            refine box_step ?hg (N := 20) ?hd (cs := #[.bool false, .string (⟨#[]⟩ : ByteArray), .string (⟨#[]⟩ : ByteArray)]) (t := 31) ?hr ?_; (case hd => rfl); (case hg => rfl); (case hr => first | (go_simp; done) | (go_simp; rfl))
                                            intro gb490 hg w71 hbox hb
                                            have HS0_ := (hb.cell (World.block_lt_of_cell? _ _ (hHeld.1))).trans (hHeld.1)
                                            have HS1_ := (hb.cell (World.block_lt_of_cell? _ _ (hHeld.2.1))).trans (hHeld.2.1)
                                            have HS2_ := (hb.cell (World.block_lt_of_cell? _ _ (hHeld.2.2.1))).trans (hHeld.2.2.1)
                                            have HS3_ := (hb.cell (World.block_lt_of_cell? _ _ (hHeld.2.2.2.1))).trans (hHeld.2.2.2.1)
                                            have HS4_ := (hb.cell (World.block_lt_of_cell? _ _ (hHeld.2.2.2.2.1))).trans (hHeld.2.2.2.2.1)
                                            have HS5_ := (hb.cell (World.block_lt_of_cell? _ _ (hHeld.2.2.2.2.2))).trans (hHeld.2.2.2.2.2)
                                            have n0_ := Aside0.mk (Kd.R_below (Kd.R_elderB (by (with_reducible repeat (first | apply Kd.R_alloc | apply Kd.R_drewN | apply Kd.R_drew)); exact HO_9.out) gb490 (Nat.le_of_eq hg.symm)) hb)
                                            have n1_ := Aside0.mk (Kd.R_below (Kd.R_elderB (by (with_reducible repeat (first | apply Kd.R_alloc | apply Kd.R_drewN | apply Kd.R_drew)); exact HO_10.out) gb490 (Nat.le_of_eq hg.symm)) hb)
                                            have n2_ := Aside0.mk (Kd.R_below (Kd.R_elderB (by (with_reducible repeat (first | apply Kd.R_alloc | apply Kd.R_drewN | apply Kd.R_drew)); exact HO_12.out) gb490 (Nat.le_of_eq hg.symm)) hb)
                                            have n3_ := Aside0.mk (Kd.R_below (Kd.R_elderB (by (with_reducible repeat (first | apply Kd.R_alloc | apply Kd.R_drewN | apply Kd.R_drew)); exact HO_17.out) gb490 (Nat.le_of_eq hg.symm)) hb)
                                            have n4_ := Aside0.mk (below_step (by repeat (first | (with_reducible first | exact HB.out | apply below_alloc | apply pw_below_drewN | apply below_drew1) | exact HB.out)) hb)
                                            have n5_ := Aside0.mk (hbox)
                                            have n6_ := Aside0.mk ((by rw [hg]; exact (below_size (by repeat (first | (with_reducible first | exact HB.out | apply below_alloc | apply pw_below_drewN | apply below_drew1) | exact HB.out))) : w.heap.size ≤ gb490))
                                            have n7_ := Aside0.mk ((by rw [hg]; exact (below_size (by repeat (first | (with_reducible first | exact HB.out | apply below_alloc | apply pw_below_drewN | apply below_drew1) | exact HB.out))) : w.heap.size ≤ gb490))
                                            clear HO_9
                                            clear HO_10
                                            clear HO_12
                                            clear HO_17
                                            clear HB
                                            have HO_9 := n0_
                                            have HO_10 := n1_
                                            have HO_12 := n2_
                                            have HO_17 := n3_
                                            have HB := n4_
                                            have BK490 := n5_
                                            have GW490 := n6_
                                            have GE490 := n7_
                                            clear n0_ n1_ n2_ n3_ n4_ n5_ n6_ n7_
                                            clear hb hbox hg
                                            refine hK.out _ _ ⟨HS0_, HS1_, HS2_, HS3_, HS4_, HS5_⟩ (fun hHeld => ?_)
                                            clear hK K
                                            refine norm_ (a' := ?_) ?_ ?_
                                            rotate_left
                                            · show Act.put _ (some 20) _ = _
                                              simp only [Act.put, List.setIfInBounds_toArray, List.set_cons_zero, List.set_cons_succ, i64_w, i32_w]
                                              rfl
                                            refine one_ (i := 8) (N := some 137) #[true, true, true, true, true, true, true, true, true, false, false, false, true, false, false] rfl rfl (one_of HT_.out (by kernel_rfl)) (by decide) (fun K hK => ?_)
                                            refine goes_ Tryz.func22 (by kernel_rfl) rfl #[.agg #[.bool ((rd_T31 t462 x19_4).f0), .string ((rd_T31 t462 x19_4).f1), .string ((rd_T31 t462 x19_4).f2)], .agg #[.bool ((rd_T31 t466 x19_4).f0), .string ((rd_T31 t466 x19_4).f1), .string ((rd_T31 t466 x19_4).f2)]] (by rfl) rfl rfl (by (try simp only [List.map_toArray, List.map_cons, List.map_nil]); first | done | rfl | (simp only [List.length_drop, List.length_take]; rfl)) ?_
                                            with_reducible refine (ratio_Add.calls ((rd_T31 t462 x19_4).f0) ((rd_T31 t462 x19_4).f1) ((rd_T31 t462 x19_4).f2) ((rd_T31 t466 x19_4).f0) ((rd_T31 t466 x19_4).f1) ((rd_T31 t466 x19_4).f2) t486 t487 t488 t489 _ ?side1 A65.out).mono ?_
                                            (case side1 => exact Tab.below HTAB.out (by repeat (first | (with_reducible first | exact HB.out | apply below_alloc | apply pw_below_drewN | apply below_drew1 | refine below_set ?_ GE490.out) | exact HB.out)))
                                            rintro e w72 ⟨rfl, hb⟩
                                            have HS0_ := (hb.cell (World.block_lt_of_cell? _ _ (hHeld.1))).trans (hHeld.1)
                                            have HS1_ := (hb.cell (World.block_lt_of_cell? _ _ (hHeld.2.1))).trans (hHeld.2.1)
                                            have HS2_ := (hb.cell (World.block_lt_of_cell? _ _ (hHeld.2.2.1))).trans (hHeld.2.2.1)
                                            have HS3_ := (hb.cell (World.block_lt_of_cell? _ _ (hHeld.2.2.2.1))).trans (hHeld.2.2.2.1)
                                            have HS4_ := (hb.cell (World.block_lt_of_cell? _ _ (hHeld.2.2.2.2.1))).trans (hHeld.2.2.2.2.1)
                                            have HS5_ := (hb.cell (World.block_lt_of_cell? _ _ (hHeld.2.2.2.2.2))).trans (hHeld.2.2.2.2.2)
                                            refine ⟨_, rfl, ?_⟩
                                            have n0_ := Aside0.mk (Kd.R_below (by (with_reducible repeat (first | apply Kd.R_alloc | apply Kd.R_drewN | apply Kd.R_drew)); exact HO_9.out) hb)
                                            have n1_ := Aside0.mk (Kd.R_below (by (with_reducible repeat (first | apply Kd.R_alloc | apply Kd.R_drewN | apply Kd.R_drew)); exact HO_10.out) hb)
                                            have n2_ := Aside0.mk (Kd.R_below (by (with_reducible repeat (first | apply Kd.R_alloc | apply Kd.R_drewN | apply Kd.R_drew)); exact HO_12.out) hb)
                                            have n3_ := Aside0.mk (Kd.R_below (by (with_reducible repeat (first | apply Kd.R_alloc | apply Kd.R_drewN | apply Kd.R_drew)); exact HO_17.out) hb)
                                            have n4_ := Aside0.mk (blk_below (g := gb490) (o := .cells #[.bool false, .string (⟨#[]⟩ : ByteArray), .string (⟨#[]⟩ : ByteArray)] 31 (0, 0)) (by (with_reducible repeat (first | refine blk_drewN ?_ _ | refine blk_drew ?_ | refine blk_alloc ?_ _)); exact BK490.out) hb)
                                            have n5_ := Aside0.mk (below_step (by repeat (first | (with_reducible first | exact HB.out | apply below_alloc | apply pw_below_drewN | apply below_drew1 | refine below_set ?_ GE490.out) | exact HB.out)) hb)
                                            clear HO_9
                                            clear HO_10
                                            clear HO_12
                                            clear HO_17
                                            clear BK490
                                            clear HB
                                            have HO_9 := n0_
                                            have HO_10 := n1_
                                            have HO_12 := n2_
                                            have HO_17 := n3_
                                            have BK490 := n4_
                                            have HB := n5_
                                            clear n0_ n1_ n2_ n3_ n4_ n5_
                                            (try clear hb)
                                            (try clear hb2)
                                            (try clear hk)
                                            (try clear hi)
                                            refine hK.out _ _ ⟨HS0_, HS1_, HS2_, HS3_, HS4_, HS5_⟩ (fun hHeld => ?_)
                                            clear hK K
                                            refine norm_ (a' := ?_) ?_ ?_
                                            rotate_left
                                            · show Act.put _ (some 137) _ = _
                                              simp only [Act.put, List.setIfInBounds_toArray, List.set_cons_zero, List.set_cons_succ, i64_w, i32_w]
                                              rfl
                                            refine pure_ (i := 9) (N := some 128) (v := ?_) (a' := ?_) #[true, true, true, true, true, true, true, true, true, true, false, false, true, false, false] rfl rfl (any_of HT_.out (by kernel_rfl)) (fun _ _ _ h => h) (Or.inl ⟨by rfl, ?_⟩) ?_ ?_
                                            rotate_left
                                            · intro w'
                                              go_simp
                                              with_reducible rfl
                                            rotate_left
                                            · simp only [Act.put, List.setIfInBounds_toArray, List.set_cons_zero, List.set_cons_succ, i64_w, i32_w]
                                              rfl
                                            refine pure_ (i := 10) (N := some 138) (v := ?_) (a' := ?_) #[true, true, true, true, true, true, true, true, true, true, true, false, true, false, false] rfl rfl (any_of HT_.out (by kernel_rfl)) (fun _ _ _ h => h) (Or.inl ⟨by rfl, ?_⟩) ?_ ?_
                                            rotate_left
                                            · intro w'
                                              go_simp
                                              with_reducible rfl
                                            rotate_left
                                            · simp only [Act.put, List.setIfInBounds_toArray, List.set_cons_zero, List.set_cons_succ, i64_w, i32_w]
                                              rfl
                                            refine pure_ (i := 11) (N := some 139) (v := ?_) (a' := ?_) #[true, true, true, true, true, true, true, true, true, true, true, true, true, false, false] rfl rfl (any_of HT_.out (by kernel_rfl)) (fun _ _ _ h => h) (Or.inl ⟨by rfl, ?_⟩) ?_ ?_
                                            rotate_left
                                            · intro w'
                                              go_simp
                                              with_reducible rfl
                                            rotate_left
                                            · simp only [Act.put, List.setIfInBounds_toArray, List.set_cons_zero, List.set_cons_succ, i64_w, i32_w]
                                              rfl
                                            exact norm_ (by simp only [putAll, Act.put, List.setIfInBounds_toArray, List.set_cons_zero, List.set_cons_succ]) (hCont (gb490) _ ⟨hHeld, (by (with_reducible repeat (first | apply Kd.R_alloc | apply Kd.R_drewN | apply Kd.R_drew)); exact Kd.R_mono HO_10.out (fun _ hk => ⟨hk.1.2.1, ⟨hk.1.2.2, ⟨hk.1.1, hk.2⟩⟩⟩)), (by (with_reducible repeat (first | apply Kd.R_alloc | apply Kd.R_drewN | apply Kd.R_drew)); exact Kd.R_mono HO_12.out (fun _ hk => ⟨hk.1.2.1, ⟨hk.1.2.2, ⟨hk.1.1, hk.2⟩⟩⟩)), (by (with_reducible repeat (first | apply Kd.R_alloc | apply Kd.R_drewN | apply Kd.R_drew)); exact Kd.R_mono HO_17.out (fun _ hk => ⟨hk.1.2.1, ⟨hk.1.2.2, ⟨hk.1.1, hk.2⟩⟩⟩)), (by (with_reducible repeat (first | apply Kd.R_alloc | apply Kd.R_drewN | apply Kd.R_drew)); exact Kd.R_mono HO_9.out (fun _ hk => ⟨hk.1.1, ⟨hk.1.2.1, ⟨hk.1.2.2, hk.2⟩⟩⟩)), (by (with_reducible repeat (first | refine blk_drewN ?_ _ | refine blk_drew ?_ | refine blk_alloc ?_ _)); exact BK490.out), GW490.out, GE490.out, (by repeat (first | (with_reducible first | exact HB.out | apply below_alloc | apply pw_below_drewN | apply below_drew1 | refine below_set ?_ GE490.out) | exact HB.out))⟩)
                                        rintro gb490 w73 ⟨hS_, h0_, h1_, h2_, h3_, h4_, h5_, h6_, h7_⟩
                                        have n0_ : Aside0 (Kd.R k31 31 w73 w.heap.size (fun k_ => some k_ ≠ (.slice (some ad485) t466.length co70 : Value).ownBlock ∧ some k_ ≠ (v482 : Value).ownBlock ∧ some k_ ≠ (u9 : Value).ownBlock ∧ k_ ≠ gb490) (.slice (some ad484) t462.length co69) t462) := ⟨h0_⟩
                                        have n1_ : Aside0 (Kd.R k31 31 w73 w.heap.size (fun k_ => some k_ ≠ (.slice (some ad484) t462.length co69 : Value).ownBlock ∧ some k_ ≠ (v482 : Value).ownBlock ∧ some k_ ≠ (u9 : Value).ownBlock ∧ k_ ≠ gb490) (.slice (some ad485) t466.length co70) t466) := ⟨h1_⟩
                                        have n2_ : Aside0 (Kd.R k31 31 w73 w.heap.size (fun k_ => some k_ ≠ (.slice (some ad484) t462.length co69 : Value).ownBlock ∧ some k_ ≠ (.slice (some ad485) t466.length co70 : Value).ownBlock ∧ some k_ ≠ (u9 : Value).ownBlock ∧ k_ ≠ gb490) v482 t480) := ⟨h2_⟩
                                        have n3_ : Aside0 (Kd.R k31 31 w73 w.heap.size (fun k_ => some k_ ≠ (.slice (some ad484) t462.length co69 : Value).ownBlock ∧ some k_ ≠ (.slice (some ad485) t466.length co70 : Value).ownBlock ∧ some k_ ≠ (v482 : Value).ownBlock ∧ k_ ≠ gb490) u9 x9_4) := ⟨h3_⟩
                                        have n4_ : Aside0 (w73.heap[gb490]? = some (.cells #[.bool false, .string (⟨#[]⟩ : ByteArray), .string (⟨#[]⟩ : ByteArray)] 31 (0, 0))) := ⟨h4_⟩
                                        have n5_ : Aside0 (w.heap.size ≤ gb490) := ⟨h5_⟩
                                        have n6_ : Aside0 (w.heap.size ≤ gb490) := ⟨h6_⟩
                                        have n7_ : Aside0 (Below w.heap.size w w73) := ⟨h7_⟩
                                        clear HO_9
                                        clear HO_10
                                        clear HO_12
                                        clear HO_17
                                        clear HB
                                        clear h0_ h1_ h2_ h3_ h4_ h5_ h6_ h7_
                                        have HO_10 := n0_
                                        have HO_12 := n1_
                                        have HO_17 := n2_
                                        have HO_9 := n3_
                                        have BK490 := n4_
                                        have GW490 := n5_
                                        have GE490 := n6_
                                        have HB := n7_
                                        clear n0_ n1_ n2_ n3_ n4_ n5_ n6_ n7_
                                        have hHeld : w73.cell? (ad484.add ((x19_4).toNat * 3)) = some (.bool ((rd_T31 t462 x19_4).f0)) ∧ w73.cell? ⟨(ad484.add ((x19_4).toNat * 3)).block, (ad484.add ((x19_4).toNat * 3)).off + 1, none⟩ = some (.string ((rd_T31 t462 x19_4).f1)) ∧ w73.cell? ⟨(ad484.add ((x19_4).toNat * 3)).block, (ad484.add ((x19_4).toNat * 3)).off + 2, none⟩ = some (.string ((rd_T31 t462 x19_4).f2)) ∧ w73.cell? (ad485.add ((x19_4).toNat * 3)) = some (.bool ((rd_T31 t466 x19_4).f0)) ∧ w73.cell? ⟨(ad485.add ((x19_4).toNat * 3)).block, (ad485.add ((x19_4).toNat * 3)).off + 1, none⟩ = some (.string ((rd_T31 t466 x19_4).f1)) ∧ w73.cell? ⟨(ad485.add ((x19_4).toNat * 3)).block, (ad485.add ((x19_4).toNat * 3)).off + 2, none⟩ = some (.string ((rd_T31 t466 x19_4).f2)) := hS_
                                        refine norm_ (a' := ?_) ?_ ?_
                                        rotate_left
                                        · simp only [putAll, Act.put, List.setIfInBounds_toArray, List.set_cons_zero, List.set_cons_succ]
                                          rfl
                                        refine one_ (i := 13) (N := none) #[true, true, true, true, true, true, true, true, true, true, true, true, true, true, false] rfl rfl (one_of HT_.out (by kernel_rfl)) (by decide) (fun K hK => ?_)
                                        have hs74 : w73.cell? ⟨gb490, 0, none⟩ = some (.bool false) := (blk_cell BK490.out 0).trans rfl
                                        have hfs74 := blk_frozen BK490.out 0
                                        have hs75 : w73.cell? ⟨gb490, 1, none⟩ = some (.string (⟨#[]⟩ : ByteArray)) := (blk_cell BK490.out 1).trans rfl
                                        have hfs75 := blk_frozen BK490.out 1
                                        have hs76 : w73.cell? ⟨gb490, 2, none⟩ = some (.string (⟨#[]⟩ : ByteArray)) := (blk_cell BK490.out 2).trans rfl
                                        have hfs76 := blk_frozen BK490.out 2
                                        refine skip_ (w1 := ?_) (by rfl) rfl ?_ ?_
                                        rotate_left
                                        · go_simp
                                          rfl
                                        refine hK.out _ _ ⟨((cell_far (p := ⟨gb490, _, none⟩) (by first | exact Kd.own_blk (Kd.R_away HO_10.out (fun _ hk => hk.2.2.2)) | (rw [add_block]; exact Kd.own_blk (Kd.R_away HO_10.out (fun _ hk => hk.2.2.2))) | (show (Addr.add _ _).block ≠ _; rw [add_block]; exact Kd.own_blk (Kd.R_away HO_10.out (fun _ hk => hk.2.2.2))) | (dsimp only; exact Kd.own_blk (Kd.R_away HO_10.out (fun _ hk => hk.2.2.2)))) _).trans (((cell_far (p := ⟨gb490, _, none⟩) (by first | exact Kd.own_blk (Kd.R_away HO_10.out (fun _ hk => hk.2.2.2)) | (rw [add_block]; exact Kd.own_blk (Kd.R_away HO_10.out (fun _ hk => hk.2.2.2))) | (show (Addr.add _ _).block ≠ _; rw [add_block]; exact Kd.own_blk (Kd.R_away HO_10.out (fun _ hk => hk.2.2.2))) | (dsimp only; exact Kd.own_blk (Kd.R_away HO_10.out (fun _ hk => hk.2.2.2)))) _).trans (((cell_far (p := ⟨gb490, _, none⟩) (by first | exact Kd.own_blk (Kd.R_away HO_10.out (fun _ hk => hk.2.2.2)) | (rw [add_block]; exact Kd.own_blk (Kd.R_away HO_10.out (fun _ hk => hk.2.2.2))) | (show (Addr.add _ _).block ≠ _; rw [add_block]; exact Kd.own_blk (Kd.R_away HO_10.out (fun _ hk => hk.2.2.2))) | (dsimp only; exact Kd.own_blk (Kd.R_away HO_10.out (fun _ hk => hk.2.2.2)))) _).trans (hHeld.1)))))), ((cell_far (p := ⟨gb490, _, none⟩) (by first | exact Kd.own_blk (Kd.R_away HO_10.out (fun _ hk => hk.2.2.2)) | (rw [add_block]; exact Kd.own_blk (Kd.R_away HO_10.out (fun _ hk => hk.2.2.2))) | (show (Addr.add _ _).block ≠ _; rw [add_block]; exact Kd.own_blk (Kd.R_away HO_10.out (fun _ hk => hk.2.2.2))) | (dsimp only; exact Kd.own_blk (Kd.R_away HO_10.out (fun _ hk => hk.2.2.2)))) _).trans (((cell_far (p := ⟨gb490, _, none⟩) (by first | exact Kd.own_blk (Kd.R_away HO_10.out (fun _ hk => hk.2.2.2)) | (rw [add_block]; exact Kd.own_blk (Kd.R_away HO_10.out (fun _ hk => hk.2.2.2))) | (show (Addr.add _ _).block ≠ _; rw [add_block]; exact Kd.own_blk (Kd.R_away HO_10.out (fun _ hk => hk.2.2.2))) | (dsimp only; exact Kd.own_blk (Kd.R_away HO_10.out (fun _ hk => hk.2.2.2)))) _).trans (((cell_far (p := ⟨gb490, _, none⟩) (by first | exact Kd.own_blk (Kd.R_away HO_10.out (fun _ hk => hk.2.2.2)) | (rw [add_block]; exact Kd.own_blk (Kd.R_away HO_10.out (fun _ hk => hk.2.2.2))) | (show (Addr.add _ _).block ≠ _; rw [add_block]; exact Kd.own_blk (Kd.R_away HO_10.out (fun _ hk => hk.2.2.2))) | (dsimp only; exact Kd.own_blk (Kd.R_away HO_10.out (fun _ hk => hk.2.2.2)))) _).trans (hHeld.2.1)))))), ((cell_far (p := ⟨gb490, _, none⟩) (by first | exact Kd.own_blk (Kd.R_away HO_10.out (fun _ hk => hk.2.2.2)) | (rw [add_block]; exact Kd.own_blk (Kd.R_away HO_10.out (fun _ hk => hk.2.2.2))) | (show (Addr.add _ _).block ≠ _; rw [add_block]; exact Kd.own_blk (Kd.R_away HO_10.out (fun _ hk => hk.2.2.2))) | (dsimp only; exact Kd.own_blk (Kd.R_away HO_10.out (fun _ hk => hk.2.2.2)))) _).trans (((cell_far (p := ⟨gb490, _, none⟩) (by first | exact Kd.own_blk (Kd.R_away HO_10.out (fun _ hk => hk.2.2.2)) | (rw [add_block]; exact Kd.own_blk (Kd.R_away HO_10.out (fun _ hk => hk.2.2.2))) | (show (Addr.add _ _).block ≠ _; rw [add_block]; exact Kd.own_blk (Kd.R_away HO_10.out (fun _ hk => hk.2.2.2))) | (dsimp only; exact Kd.own_blk (Kd.R_away HO_10.out (fun _ hk => hk.2.2.2)))) _).trans (((cell_far (p := ⟨gb490, _, none⟩) (by first | exact Kd.own_blk (Kd.R_away HO_10.out (fun _ hk => hk.2.2.2)) | (rw [add_block]; exact Kd.own_blk (Kd.R_away HO_10.out (fun _ hk => hk.2.2.2))) | (show (Addr.add _ _).block ≠ _; rw [add_block]; exact Kd.own_blk (Kd.R_away HO_10.out (fun _ hk => hk.2.2.2))) | (dsimp only; exact Kd.own_blk (Kd.R_away HO_10.out (fun _ hk => hk.2.2.2)))) _).trans (hHeld.2.2.1)))))), ((cell_far (p := ⟨gb490, _, none⟩) (by first | exact Kd.own_blk (Kd.R_away HO_12.out (fun _ hk => hk.2.2.2)) | (rw [add_block]; exact Kd.own_blk (Kd.R_away HO_12.out (fun _ hk => hk.2.2.2))) | (show (Addr.add _ _).block ≠ _; rw [add_block]; exact Kd.own_blk (Kd.R_away HO_12.out (fun _ hk => hk.2.2.2))) | (dsimp only; exact Kd.own_blk (Kd.R_away HO_12.out (fun _ hk => hk.2.2.2)))) _).trans (((cell_far (p := ⟨gb490, _, none⟩) (by first | exact Kd.own_blk (Kd.R_away HO_12.out (fun _ hk => hk.2.2.2)) | (rw [add_block]; exact Kd.own_blk (Kd.R_away HO_12.out (fun _ hk => hk.2.2.2))) | (show (Addr.add _ _).block ≠ _; rw [add_block]; exact Kd.own_blk (Kd.R_away HO_12.out (fun _ hk => hk.2.2.2))) | (dsimp only; exact Kd.own_blk (Kd.R_away HO_12.out (fun _ hk => hk.2.2.2)))) _).trans (((cell_far (p := ⟨gb490, _, none⟩) (by first | exact Kd.own_blk (Kd.R_away HO_12.out (fun _ hk => hk.2.2.2)) | (rw [add_block]; exact Kd.own_blk (Kd.R_away HO_12.out (fun _ hk => hk.2.2.2))) | (show (Addr.add _ _).block ≠ _; rw [add_block]; exact Kd.own_blk (Kd.R_away HO_12.out (fun _ hk => hk.2.2.2))) | (dsimp only; exact Kd.own_blk (Kd.R_away HO_12.out (fun _ hk => hk.2.2.2)))) _).trans (hHeld.2.2.2.1)))))), ((cell_far (p := ⟨gb490, _, none⟩) (by first | exact Kd.own_blk (Kd.R_away HO_12.out (fun _ hk => hk.2.2.2)) | (rw [add_block]; exact Kd.own_blk (Kd.R_away HO_12.out (fun _ hk => hk.2.2.2))) | (show (Addr.add _ _).block ≠ _; rw [add_block]; exact Kd.own_blk (Kd.R_away HO_12.out (fun _ hk => hk.2.2.2))) | (dsimp only; exact Kd.own_blk (Kd.R_away HO_12.out (fun _ hk => hk.2.2.2)))) _).trans (((cell_far (p := ⟨gb490, _, none⟩) (by first | exact Kd.own_blk (Kd.R_away HO_12.out (fun _ hk => hk.2.2.2)) | (rw [add_block]; exact Kd.own_blk (Kd.R_away HO_12.out (fun _ hk => hk.2.2.2))) | (show (Addr.add _ _).block ≠ _; rw [add_block]; exact Kd.own_blk (Kd.R_away HO_12.out (fun _ hk => hk.2.2.2))) | (dsimp only; exact Kd.own_blk (Kd.R_away HO_12.out (fun _ hk => hk.2.2.2)))) _).trans (((cell_far (p := ⟨gb490, _, none⟩) (by first | exact Kd.own_blk (Kd.R_away HO_12.out (fun _ hk => hk.2.2.2)) | (rw [add_block]; exact Kd.own_blk (Kd.R_away HO_12.out (fun _ hk => hk.2.2.2))) | (show (Addr.add _ _).block ≠ _; rw [add_block]; exact Kd.own_blk (Kd.R_away HO_12.out (fun _ hk => hk.2.2.2))) | (dsimp only; exact Kd.own_blk (Kd.R_away HO_12.out (fun _ hk => hk.2.2.2)))) _).trans (hHeld.2.2.2.2.1)))))), ((cell_far (p := ⟨gb490, _, none⟩) (by first | exact Kd.own_blk (Kd.R_away HO_12.out (fun _ hk => hk.2.2.2)) | (rw [add_block]; exact Kd.own_blk (Kd.R_away HO_12.out (fun _ hk => hk.2.2.2))) | (show (Addr.add _ _).block ≠ _; rw [add_block]; exact Kd.own_blk (Kd.R_away HO_12.out (fun _ hk => hk.2.2.2))) | (dsimp only; exact Kd.own_blk (Kd.R_away HO_12.out (fun _ hk => hk.2.2.2)))) _).trans (((cell_far (p := ⟨gb490, _, none⟩) (by first | exact Kd.own_blk (Kd.R_away HO_12.out (fun _ hk => hk.2.2.2)) | (rw [add_block]; exact Kd.own_blk (Kd.R_away HO_12.out (fun _ hk => hk.2.2.2))) | (show (Addr.add _ _).block ≠ _; rw [add_block]; exact Kd.own_blk (Kd.R_away HO_12.out (fun _ hk => hk.2.2.2))) | (dsimp only; exact Kd.own_blk (Kd.R_away HO_12.out (fun _ hk => hk.2.2.2)))) _).trans (((cell_far (p := ⟨gb490, _, none⟩) (by first | exact Kd.own_blk (Kd.R_away HO_12.out (fun _ hk => hk.2.2.2)) | (rw [add_block]; exact Kd.own_blk (Kd.R_away HO_12.out (fun _ hk => hk.2.2.2))) | (show (Addr.add _ _).block ≠ _; rw [add_block]; exact Kd.own_blk (Kd.R_away HO_12.out (fun _ hk => hk.2.2.2))) | (dsimp only; exact Kd.own_blk (Kd.R_away HO_12.out (fun _ hk => hk.2.2.2)))) _).trans (hHeld.2.2.2.2.2))))))⟩ (fun hHeld => ?_)
                                        clear hK K
                                        refine pure_ (i := 14) (N := some 21) (v := ?_) (a' := ?_) #[true, true, true, true, true, true, true, true, true, true, true, true, true, true, true] rfl rfl (any_of HT_.out (by kernel_rfl)) (fun _ _ _ h => h) (Or.inl ⟨by rfl, ?_⟩) ?_ ?_
                                        rotate_left
                                        · intro w'
                                          go_simp
                                          with_reducible rfl
                                        rotate_left
                                        · simp only [Act.put, List.setIfInBounds_toArray, List.set_cons_zero, List.set_cons_succ, i64_w, i32_w]
                                          rfl
                                        refine done_ (done_of HT_.out (by kernel_rfl)) ?_
                                        have hcz77_0 : w73.cell? ⟨gb490, 0, none⟩ = some (.bool false) := (blk_cell BK490.out 0).trans rfl
                                        have hcz77_1 : w73.cell? ⟨gb490, 1, none⟩ = some (.string (⟨#[]⟩ : ByteArray)) := (blk_cell BK490.out 1).trans rfl
                                        have hcz77_2 : w73.cell? ⟨gb490, 2, none⟩ = some (.string (⟨#[]⟩ : ByteArray)) := (blk_cell BK490.out 2).trans rfl
                                        have hfz77_0 := blk_frozen BK490.out 0
                                        have hfz77_1 := blk_frozen BK490.out 1
                                        have hfz77_2 := blk_frozen BK490.out 2
                                        try go_wp2_with (first | ((with_reducible refine gate_builtin (b := .append) (xs := #[.tmp 143, .tmp 145]) rfl ?_); (try (refine gate_guard (by rfl) ?_; dsimp only)); at_builtin; refine Kd.R_append k31 (w0 := w) w.heap.size rfl (.tmp 143) (.tmp 145) 23 31 (.agg #[(.bool false), (.string ⟨#[]⟩), (.string ⟨#[]⟩)]) 40 rfl Tryz.underlying23 info31 rfl (by decide) (by omega) u9 x9_4 (⟨t486, t487, t488⟩ : S31) [.bool t486, .string t487, .string t488] (fun k_ => some k_ ≠ (.slice (some ad484) t462.length co69 : Value).ownBlock ∧ some k_ ≠ (.slice (some ad485) t466.length co70 : Value).ownBlock ∧ some k_ ≠ (v482 : Value).ownBlock ∧ k_ ≠ gb490) (fun _ => False) rfl (by first | (go_simp; done) | (go_simp; rfl)) ?aP (fun _ hk => hk.elim) ?aF ?aO ?aB ?aS ?aL ?_; (case aP => exact k31_mkM _ _ _ (⟨t486, t487, t488⟩ : S31)); (case aB => exact (by repeat (first | (with_reducible first | exact HB.out | apply below_alloc | apply pw_below_drewN | apply below_drew1 | refine below_set ?_ GE490.out) | exact HB.out))); (case aF => exact (fun k_ hk => ⟨Kd.fresh' (Kd.R_lt (by (with_reducible repeat (first | apply Kd.R_alloc | apply Kd.R_drewN | apply Kd.R_drew)); exact (Kd.R_mono (Kd.R_far (p := ⟨gb490, 2, none⟩) (Kd.R_far (p := ⟨gb490, 1, none⟩) (Kd.R_far (p := ⟨gb490, 0, none⟩) (Kd.R_mono HO_10.out (fun k_ hk => (⟨hk, hk.2.2.2⟩ : _ ∧ k_ ≠ gb490))) (fun _ hk => hk.2) (.bool t486)) (fun _ hk => hk.2) (.string t487)) (fun _ hk => hk.2) (.string t488)) (fun _ h_ => h_.1)))) k_ hk, Kd.fresh' (Kd.R_lt (by (with_reducible repeat (first | apply Kd.R_alloc | apply Kd.R_drewN | apply Kd.R_drew)); exact (Kd.R_mono (Kd.R_far (p := ⟨gb490, 2, none⟩) (Kd.R_far (p := ⟨gb490, 1, none⟩) (Kd.R_far (p := ⟨gb490, 0, none⟩) (Kd.R_mono HO_12.out (fun k_ hk => (⟨hk, hk.2.2.2⟩ : _ ∧ k_ ≠ gb490))) (fun _ hk => hk.2) (.bool t486)) (fun _ hk => hk.2) (.string t487)) (fun _ hk => hk.2) (.string t488)) (fun _ h_ => h_.1)))) k_ hk, Kd.fresh' (Kd.R_lt (by (with_reducible repeat (first | apply Kd.R_alloc | apply Kd.R_drewN | apply Kd.R_drew)); exact (Kd.R_mono (Kd.R_far (p := ⟨gb490, 2, none⟩) (Kd.R_far (p := ⟨gb490, 1, none⟩) (Kd.R_far (p := ⟨gb490, 0, none⟩) (Kd.R_mono HO_17.out (fun k_ hk => (⟨hk, hk.2.2.2⟩ : _ ∧ k_ ≠ gb490))) (fun _ hk => hk.2) (.bool t486)) (fun _ hk => hk.2) (.string t487)) (fun _ hk => hk.2) (.string t488)) (fun _ h_ => h_.1)))) k_ hk, Kd.freshB (g := gb490) (o := .cells #[.bool t486, .string t487, .string t488] 31 (0, 0)) (by (with_reducible repeat (first | refine blk_drewN ?_ _ | refine blk_drew ?_ | refine blk_alloc ?_ _)); refine blk_put (cs := #[.bool t486, .string t487, .string (⟨#[]⟩ : ByteArray)]) ?_ 2 _ rfl; (with_reducible repeat (first | refine blk_drewN ?_ _ | refine blk_drew ?_ | refine blk_alloc ?_ _)); refine blk_put (cs := #[.bool t486, .string (⟨#[]⟩ : ByteArray), .string (⟨#[]⟩ : ByteArray)]) ?_ 1 _ rfl; (with_reducible repeat (first | refine blk_drewN ?_ _ | refine blk_drew ?_ | refine blk_alloc ?_ _)); refine blk_put (cs := #[.bool false, .string (⟨#[]⟩ : ByteArray), .string (⟨#[]⟩ : ByteArray)]) ?_ 0 _ rfl; (with_reducible repeat (first | refine blk_drewN ?_ _ | refine blk_drew ?_ | refine blk_alloc ?_ _)); exact BK490.out) k_ hk⟩)); (case aO => exact (by (with_reducible repeat (first | apply Kd.R_alloc | apply Kd.R_drewN | apply Kd.R_drew)); exact Kd.R_mono (Kd.R_far (p := ⟨gb490, 2, none⟩) (Kd.R_far (p := ⟨gb490, 1, none⟩) (Kd.R_far (p := ⟨gb490, 0, none⟩) (Kd.R_mono HO_9.out (fun k_ hk => (⟨hk, hk.2.2.2⟩ : _ ∧ k_ ≠ gb490))) (fun _ hk => hk.2) (.bool t486)) (fun _ hk => hk.2) (.string t487)) (fun _ hk => hk.2) (.string t488)) (fun _ hk => ⟨hk.1.1, ⟨hk.1.2.1, ⟨hk.1.2.2.1, hk.1.2.2.2⟩⟩⟩))); (case aS => exact (below_size (by repeat (first | (with_reducible first | exact HB.out | apply below_alloc | apply pw_below_drewN | apply below_drew1 | refine below_set ?_ GE490.out) | exact HB.out)))); (case aL => have := LMc67.out; omega); intro v492 w78 ho hb hg hat; rw [← Ny491.out] at ho; have n0_ := Aside0.mk (Kd.R_after (ok := (fun k_ => some k_ ≠ (.slice (some ad485) t466.length co70 : Value).ownBlock ∧ some k_ ≠ (v482 : Value).ownBlock ∧ k_ ≠ gb490)) (by (with_reducible repeat (first | apply Kd.R_alloc | apply Kd.R_drewN | apply Kd.R_drew)); exact Kd.R_mono (Kd.R_far (p := ⟨gb490, 2, none⟩) (Kd.R_far (p := ⟨gb490, 1, none⟩) (Kd.R_far (p := ⟨gb490, 0, none⟩) (Kd.R_mono HO_10.out (fun k_ hk => (⟨hk, hk.2.2.2⟩ : _ ∧ k_ ≠ gb490))) (fun _ hk => hk.2) (.bool t486)) (fun _ hk => hk.2) (.string t487)) (fun _ hk => hk.2) (.string t488)) (fun _ hk => ⟨⟨hk.1.1, ⟨hk.1.2.1, hk.1.2.2.2⟩⟩, hk.1.2.2.1⟩)) hg hat); have n1_ := Aside0.mk (Kd.R_after (ok := (fun k_ => some k_ ≠ (.slice (some ad484) t462.length co69 : Value).ownBlock ∧ some k_ ≠ (v482 : Value).ownBlock ∧ k_ ≠ gb490)) (by (with_reducible repeat (first | apply Kd.R_alloc | apply Kd.R_drewN | apply Kd.R_drew)); exact Kd.R_mono (Kd.R_far (p := ⟨gb490, 2, none⟩) (Kd.R_far (p := ⟨gb490, 1, none⟩) (Kd.R_far (p := ⟨gb490, 0, none⟩) (Kd.R_mono HO_12.out (fun k_ hk => (⟨hk, hk.2.2.2⟩ : _ ∧ k_ ≠ gb490))) (fun _ hk => hk.2) (.bool t486)) (fun _ hk => hk.2) (.string t487)) (fun _ hk => hk.2) (.string t488)) (fun _ hk => ⟨⟨hk.1.1, ⟨hk.1.2.1, hk.1.2.2.2⟩⟩, hk.1.2.2.1⟩)) hg hat); have n2_ := Aside0.mk (Kd.R_after (ok := (fun k_ => some k_ ≠ (.slice (some ad484) t462.length co69 : Value).ownBlock ∧ some k_ ≠ (.slice (some ad485) t466.length co70 : Value).ownBlock ∧ k_ ≠ gb490)) (by (with_reducible repeat (first | apply Kd.R_alloc | apply Kd.R_drewN | apply Kd.R_drew)); exact Kd.R_mono (Kd.R_far (p := ⟨gb490, 2, none⟩) (Kd.R_far (p := ⟨gb490, 1, none⟩) (Kd.R_far (p := ⟨gb490, 0, none⟩) (Kd.R_mono HO_17.out (fun k_ hk => (⟨hk, hk.2.2.2⟩ : _ ∧ k_ ≠ gb490))) (fun _ hk => hk.2) (.bool t486)) (fun _ hk => hk.2) (.string t487)) (fun _ hk => hk.2) (.string t488)) (fun _ hk => ⟨⟨hk.1.1, ⟨hk.1.2.1, hk.1.2.2.2⟩⟩, hk.1.2.2.1⟩)) hg hat); have n3_ := Aside0.mk (blk_grown (g := gb490) (o := .cells #[.bool t486, .string t487, .string t488] 31 (0, 0)) (by (with_reducible repeat (first | refine blk_drewN ?_ _ | refine blk_drew ?_ | refine blk_alloc ?_ _)); refine blk_put (cs := #[.bool t486, .string t487, .string (⟨#[]⟩ : ByteArray)]) ?_ 2 _ rfl; (with_reducible repeat (first | refine blk_drewN ?_ _ | refine blk_drew ?_ | refine blk_alloc ?_ _)); refine blk_put (cs := #[.bool t486, .string (⟨#[]⟩ : ByteArray), .string (⟨#[]⟩ : ByteArray)]) ?_ 1 _ rfl; (with_reducible repeat (first | refine blk_drewN ?_ _ | refine blk_drew ?_ | refine blk_alloc ?_ _)); refine blk_put (cs := #[.bool false, .string (⟨#[]⟩ : ByteArray), .string (⟨#[]⟩ : ByteArray)]) ?_ 0 _ rfl; (with_reducible repeat (first | refine blk_drewN ?_ _ | refine blk_drew ?_ | refine blk_alloc ?_ _)); exact BK490.out) hg (Kd.R_away HO_9.out (fun _ hk => hk.2.2.2))); have n4_ := Aside0.mk (hb); have n5_ := Aside0.mk (ho); clear HO_10; clear HO_12; clear HO_17; clear BK490; clear HB; clear HO_9; have HO_10 := n0_; have HO_12 := n1_; have HO_17 := n2_; have BK490 := n3_; have HB := n4_; have HO493 := n5_; clear n0_ n1_ n2_ n3_ n4_ n5_; clear ho hb hg hat))
                                        go_roundg kj51
                                        case measure => have := HJ4.out; have := HK2.out; have := HJ40.out; have := HK4.out; have := HJ51.out; omega
                                        case rel => exact ⟨(y491), (wrap64 (x19_4 + 1)), (by first | rfl | (simp; done) | (simp [*]; done)), H', ⟨by have := HJ4.out; have := HK2.out; have := HJ40.out; have := HK4.out; have := HJ51.out; omega⟩, ⟨by (with_reducible repeat (first | apply Kd.R_alloc | apply Kd.R_drewN | apply Kd.R_drew)); exact Kd.R_mono HO493.out (fun _ hk => ⟨hk.1, ⟨hk.2.1, hk.2.2.1⟩⟩)⟩, ⟨by (with_reducible repeat (first | apply Kd.R_alloc | apply Kd.R_drewN | apply Kd.R_drew)); exact Kd.R_mono HO_10.out (fun _ hk => ⟨hk.2, ⟨hk.1.1, hk.1.2.1⟩⟩)⟩, ⟨by (with_reducible repeat (first | apply Kd.R_alloc | apply Kd.R_drewN | apply Kd.R_drew)); exact Kd.R_mono HO_12.out (fun _ hk => ⟨hk.2, ⟨hk.1.1, hk.1.2.1⟩⟩)⟩, ⟨by (with_reducible repeat (first | apply Kd.R_alloc | apply Kd.R_drewN | apply Kd.R_drew)); exact Kd.R_mono HO_17.out (fun _ hk => ⟨hk.2, ⟨hk.1.1, hk.1.2.1⟩⟩)⟩, ⟨by repeat (first | (with_reducible first | exact HB.out | apply below_alloc | apply pw_below_drewN | apply below_drew1 | refine below_set ?_ GE490.out) | exact HB.out)⟩⟩
                                      · rw [if_neg c67] at H
                                        exact absurd H (by simp)
                                    · rw [if_neg c66] at H
                                      have c66b0 : (t489 == 0) = false := beq_eq_false_iff_ne.mpr c66
                                      have c66b1 : (t489 != 0) = true := bne_iff_ne.mpr c66
                                      obtain rfl := Option.some.inj H
                                      try go_wp2
                                      have n0_ := Aside0.mk (Kd.R_drew HO_9.out)
                                      have n1_ := Aside0.mk (Kd.R_drew HO_10.out)
                                      have n2_ := Aside0.mk (Kd.R_drew HO_12.out)
                                      have n3_ := Aside0.mk (Kd.R_drew HO_17.out)
                                      have n4_ := Aside0.mk (below_drew1 HB.out)
                                      clear HO_9
                                      clear HO_10
                                      clear HO_12
                                      clear HO_17
                                      clear HB
                                      have HO_9 := n0_
                                      have HO_10 := n1_
                                      have HO_12 := n2_
                                      have HO_17 := n3_
                                      have HB := n4_
                                      clear n0_ n1_ n2_ n3_ n4_
                                      obtain ⟨Ao80, co80, eo80⟩ := Kd.R_slice HO_10.out
                                      (first | subst eo80 | (injection eo80 with f1_ f2_ f3_; have f4_ := f1_.symm; have f5_ := f3_.symm; clear f1_ f2_ f3_; subst f4_; subst f5_))
                                      have p484 : 0 ≤ (x19_4 : Int) := of_decide_eq_true (by first | (with_reducible assumption) | assumption)
                                      have q484 : x19_4 < (t462.length : Int) := of_decide_eq_true (by first | (with_reducible assumption) | assumption)
                                      obtain ⟨ad484, e484, hx484_0, hx484_1, hx484_2⟩ := at_T31 (Kd.R_reads' HO_10.out).2.2 x19_4 p484 q484
                                      cases e484
                                      replace p484 := eq_true p484
                                      replace q484 := eq_true q484
                                      obtain ⟨Ao81, co81, eo81⟩ := Kd.R_slice HO_12.out
                                      (first | subst eo81 | (injection eo81 with f1_ f2_ f3_; have f4_ := f1_.symm; have f5_ := f3_.symm; clear f1_ f2_ f3_; subst f4_; subst f5_))
                                      have p485 : 0 ≤ (x19_4 : Int) := of_decide_eq_true (by first | (with_reducible assumption) | assumption)
                                      have q485 : x19_4 < (t466.length : Int) := of_decide_eq_true (by first | (with_reducible assumption) | assumption)
                                      obtain ⟨ad485, e485, hx485_0, hx485_1, hx485_2⟩ := at_T31 (Kd.R_reads' HO_12.out).2.2 x19_4 p485 q485
                                      cases e485
                                      replace p485 := eq_true p485
                                      replace q485 := eq_true q485
                                      refine start_ (n := 15) (S := fun w' => w'.cell? (ad484.add ((x19_4).toNat * 3)) = some (.bool ((rd_T31 t462 x19_4).f0)) ∧ w'.cell? ⟨(ad484.add ((x19_4).toNat * 3)).block, (ad484.add ((x19_4).toNat * 3)).off + 1, none⟩ = some (.string ((rd_T31 t462 x19_4).f1)) ∧ w'.cell? ⟨(ad484.add ((x19_4).toNat * 3)).block, (ad484.add ((x19_4).toNat * 3)).off + 2, none⟩ = some (.string ((rd_T31 t462 x19_4).f2)) ∧ w'.cell? (ad485.add ((x19_4).toNat * 3)) = some (.bool ((rd_T31 t466 x19_4).f0)) ∧ w'.cell? ⟨(ad485.add ((x19_4).toNat * 3)).block, (ad485.add ((x19_4).toNat * 3)).off + 1, none⟩ = some (.string ((rd_T31 t466 x19_4).f1)) ∧ w'.cell? ⟨(ad485.add ((x19_4).toNat * 3)).block, (ad485.add ((x19_4).toNat * 3)).off + 2, none⟩ = some (.string ((rd_T31 t466 x19_4).f2))) (ds := []) #[false, false, false, false, false, false, false, false, false, false, false, false, false, false, false] (by kernel_rfl) rfl rfl ⟨hx484_0, hx484_1, hx484_2, hx485_0, hx485_1, hx485_2⟩ (fun hHeld => ?_); refine with_tabW customhouselaw19_LinearSums.tab20 customhouselaw19_LinearSums.bits20 (fun HT_ HW_ => ?_)
                                      generalize wc.drew = w79 at HO_9 HO_10 HO_12 HO_17 HB hx484_0 hx484_1 hx484_2 hx485_0 hx485_1 hx485_2 hHeld ⊢
                                      refine pure_ (i := 0) (N := some 129) (v := ?_) (a' := ?_) #[true, false, false, false, false, false, false, false, false, false, false, false, false, false, false] rfl rfl (any_of HT_.out (by kernel_rfl)) (fun _ _ _ h => h) (Or.inl ⟨by rfl, ?_⟩) ?_ ?_
                                      rotate_left
                                      · intro w'
                                        go_simp
                                        with_reducible rfl
                                      rotate_left
                                      · simp only [Act.put, List.setIfInBounds_toArray, List.set_cons_zero, List.set_cons_succ, i64_w, i32_w]
                                        rfl
                                      refine pure_ (i := 1) (N := some 130) (v := ?_) (a' := ?_) #[true, true, false, false, false, false, false, false, false, false, false, false, false, false, false] rfl rfl (any_of HT_.out (by kernel_rfl)) (fun _ _ _ h => h) (Or.inl ⟨by rfl, ?_⟩) ?_ ?_
                                      rotate_left
                                      · intro w'
                                        go_simp
                                        with_reducible rfl
                                      rotate_left
                                      · simp only [Act.put, List.setIfInBounds_toArray, List.set_cons_zero, List.set_cons_succ, i64_w, i32_w]
                                        rfl
                                      refine pure_ (i := 2) (N := some 131) (v := ?_) (a' := ?_) #[true, true, true, false, false, false, false, false, false, false, false, false, false, false, false] rfl rfl (any_of HT_.out (by kernel_rfl)) (fun _ _ _ h => h) (Or.inl ⟨by rfl, ?_⟩) ?_ ?_
                                      rotate_left
                                      · intro w'
                                        go_simp
                                        with_reducible rfl
                                      rotate_left
                                      · simp only [Act.put, List.setIfInBounds_toArray, List.set_cons_zero, List.set_cons_succ, i64_w, i32_w]
                                        rfl
                                      refine pure_ (i := 4) (N := some 133) (v := ?_) (a' := ?_) #[true, true, true, false, true, false, false, false, false, false, false, false, false, false, false] rfl rfl (any_of HT_.out (by kernel_rfl)) (fun _ _ _ h => h) (Or.inl ⟨by rfl, ?_⟩) ?_ ?_
                                      rotate_left
                                      · intro w'
                                        go_simp
                                        with_reducible rfl
                                      rotate_left
                                      · simp only [Act.put, List.setIfInBounds_toArray, List.set_cons_zero, List.set_cons_succ, i64_w, i32_w]
                                        rfl
                                      refine pure_ (i := 5) (N := some 134) (v := ?_) (a' := ?_) #[true, true, true, false, true, true, false, false, false, false, false, false, false, false, false] rfl rfl (any_of HT_.out (by kernel_rfl)) (fun _ _ _ h => h) (Or.inl ⟨by rfl, ?_⟩) ?_ ?_
                                      rotate_left
                                      · intro w'
                                        go_simp
                                        with_reducible rfl
                                      rotate_left
                                      · simp only [Act.put, List.setIfInBounds_toArray, List.set_cons_zero, List.set_cons_succ, i64_w, i32_w]
                                        rfl
                                      refine pure_ (i := 6) (N := some 135) (v := ?_) (a' := ?_) #[true, true, true, false, true, true, true, false, false, false, false, false, false, false, false] rfl rfl (any_of HT_.out (by kernel_rfl)) (fun _ _ _ h => h) (Or.inl ⟨by rfl, ?_⟩) ?_ ?_
                                      rotate_left
                                      · intro w'
                                        go_simp
                                        with_reducible rfl
                                      rotate_left
                                      · simp only [Act.put, List.setIfInBounds_toArray, List.set_cons_zero, List.set_cons_succ, i64_w, i32_w]
                                        rfl
                                      refine take_ (i := 3) (N := some 132) (v := ?_) (a' := ?_) #[true, true, true, true, true, true, true, false, false, false, false, false, false, false, false] rfl rfl (take_ofW HT_.out HW_.out (by kernel_rfl)) (fun _ _ _ h => h) (Or.inl ⟨by rfl, ?_⟩) hHeld ?_ ?_
                                      rotate_left
                                      · rintro w' ⟨s0, s1, s2, s3, s4, s5⟩
                                        go_simp
                                        with_reducible rfl
                                      rotate_left
                                      · simp only [Act.put, List.setIfInBounds_toArray, List.set_cons_zero, List.set_cons_succ, i64_w, i32_w]
                                        rfl
                                      refine take_ (i := 7) (N := some 136) (v := ?_) (a' := ?_) #[true, true, true, true, true, true, true, true, false, false, false, false, false, false, false] rfl rfl (take_ofW HT_.out HW_.out (by kernel_rfl)) (fun _ _ _ h => h) (Or.inl ⟨by rfl, ?_⟩) hHeld ?_ ?_
                                      rotate_left
                                      · rintro w' ⟨s0, s1, s2, s3, s4, s5⟩
                                        go_simp
                                        with_reducible rfl
                                      rotate_left
                                      · simp only [Act.put, List.setIfInBounds_toArray, List.set_cons_zero, List.set_cons_succ, i64_w, i32_w]
                                        rfl
                                      refine join_ (σ := Nat) 2 #[true, true, true, true, true, true, true, true, true, true, true, true, true, false, false] (fun s_ => [(137, .tuple #[.agg #[.bool t486, .string t487, .string t488], .int .i64 t489]), (20, .pointer (some ⟨s_, 0, none⟩)), (128, .tuple #[.agg #[.bool t486, .string t487, .string t488], .int .i64 t489]), (138, .agg #[.bool t486, .string t487, .string t488]), (139, .int .i64 t489)]) (fun s_ w' => (w'.cell? (ad484.add ((x19_4).toNat * 3)) = some (.bool ((rd_T31 t462 x19_4).f0)) ∧ w'.cell? ⟨(ad484.add ((x19_4).toNat * 3)).block, (ad484.add ((x19_4).toNat * 3)).off + 1, none⟩ = some (.string ((rd_T31 t462 x19_4).f1)) ∧ w'.cell? ⟨(ad484.add ((x19_4).toNat * 3)).block, (ad484.add ((x19_4).toNat * 3)).off + 2, none⟩ = some (.string ((rd_T31 t462 x19_4).f2)) ∧ w'.cell? (ad485.add ((x19_4).toNat * 3)) = some (.bool ((rd_T31 t466 x19_4).f0)) ∧ w'.cell? ⟨(ad485.add ((x19_4).toNat * 3)).block, (ad485.add ((x19_4).toNat * 3)).off + 1, none⟩ = some (.string ((rd_T31 t466 x19_4).f1)) ∧ w'.cell? ⟨(ad485.add ((x19_4).toNat * 3)).block, (ad485.add ((x19_4).toNat * 3)).off + 2, none⟩ = some (.string ((rd_T31 t466 x19_4).f2))) ∧ (Kd.R k31 31 w' w.heap.size (fun k_ => some k_ ≠ (.slice (some ad485) t466.length co81 : Value).ownBlock ∧ some k_ ≠ (v482 : Value).ownBlock ∧ some k_ ≠ (u9 : Value).ownBlock ∧ k_ ≠ s_) (.slice (some ad484) t462.length co80) t462) ∧ (Kd.R k31 31 w' w.heap.size (fun k_ => some k_ ≠ (.slice (some ad484) t462.length co80 : Value).ownBlock ∧ some k_ ≠ (v482 : Value).ownBlock ∧ some k_ ≠ (u9 : Value).ownBlock ∧ k_ ≠ s_) (.slice (some ad485) t466.length co81) t466) ∧ (Kd.R k31 31 w' w.heap.size (fun k_ => some k_ ≠ (.slice (some ad484) t462.length co80 : Value).ownBlock ∧ some k_ ≠ (.slice (some ad485) t466.length co81 : Value).ownBlock ∧ some k_ ≠ (u9 : Value).ownBlock ∧ k_ ≠ s_) v482 t480) ∧ (Kd.R k31 31 w' w.heap.size (fun k_ => some k_ ≠ (.slice (some ad484) t462.length co80 : Value).ownBlock ∧ some k_ ≠ (.slice (some ad485) t466.length co81 : Value).ownBlock ∧ some k_ ≠ (v482 : Value).ownBlock ∧ k_ ≠ s_) u9 x9_4) ∧ (w'.heap[s_]? = some (.cells #[.bool false, .string (⟨#[]⟩ : ByteArray), .string (⟨#[]⟩ : ByteArray)] 31 (0, 0))) ∧ (w.heap.size ≤ s_) ∧ (w.heap.size ≤ s_) ∧ (Below w.heap.size w w')) ?_ ?_
                                      rotate_left
                                      · intro hCont
                                        refine two_ (i := 8) (j := 12) (Ni := some 137) (Nj := some 20) #[true, true, true, true, true, true, true, true, true, false, false, false, false, false, false] #[true, true, true, true, true, true, true, true, false, false, false, false, true, false, false] rfl rfl rfl rfl (two_of HT_.out (by kernel_rfl)) (by decide) (by decide) (fun K hK => ?_) (fun K hK => ?_)
                                        · skip
                                          refine goes_ Tryz.func22 (by kernel_rfl) rfl #[.agg #[.bool ((rd_T31 t462 x19_4).f0), .string ((rd_T31 t462 x19_4).f1), .string ((rd_T31 t462 x19_4).f2)], .agg #[.bool ((rd_T31 t466 x19_4).f0), .string ((rd_T31 t466 x19_4).f1), .string ((rd_T31 t466 x19_4).f2)]] (by rfl) rfl rfl (by (try simp only [List.map_toArray, List.map_cons, List.map_nil]); first | done | rfl | (simp only [List.length_drop, List.length_take]; rfl)) ?_
                                          with_reducible refine (ratio_Add.calls ((rd_T31 t462 x19_4).f0) ((rd_T31 t462 x19_4).f1) ((rd_T31 t462 x19_4).f2) ((rd_T31 t466 x19_4).f0) ((rd_T31 t466 x19_4).f1) ((rd_T31 t466 x19_4).f2) t486 t487 t488 t489 _ ?side1 A65.out).mono ?_
                                          (case side1 => exact Tab.below HTAB.out (by repeat (first | (with_reducible first | exact HB.out | apply below_alloc | apply pw_below_drewN | apply below_drew1) | exact HB.out)))
                                          rintro e w82 ⟨rfl, hb⟩
                                          have HS0_ := (hb.cell (World.block_lt_of_cell? _ _ (hHeld.1))).trans (hHeld.1)
                                          have HS1_ := (hb.cell (World.block_lt_of_cell? _ _ (hHeld.2.1))).trans (hHeld.2.1)
                                          have HS2_ := (hb.cell (World.block_lt_of_cell? _ _ (hHeld.2.2.1))).trans (hHeld.2.2.1)
                                          have HS3_ := (hb.cell (World.block_lt_of_cell? _ _ (hHeld.2.2.2.1))).trans (hHeld.2.2.2.1)
                                          have HS4_ := (hb.cell (World.block_lt_of_cell? _ _ (hHeld.2.2.2.2.1))).trans (hHeld.2.2.2.2.1)
                                          have HS5_ := (hb.cell (World.block_lt_of_cell? _ _ (hHeld.2.2.2.2.2))).trans (hHeld.2.2.2.2.2)
                                          refine ⟨_, rfl, ?_⟩
                                          have n0_ := Aside0.mk (Kd.R_below (by (with_reducible repeat (first | apply Kd.R_alloc | apply Kd.R_drewN | apply Kd.R_drew)); exact HO_9.out) hb)
                                          have n1_ := Aside0.mk (Kd.R_below (by (with_reducible repeat (first | apply Kd.R_alloc | apply Kd.R_drewN | apply Kd.R_drew)); exact HO_10.out) hb)
                                          have n2_ := Aside0.mk (Kd.R_below (by (with_reducible repeat (first | apply Kd.R_alloc | apply Kd.R_drewN | apply Kd.R_drew)); exact HO_12.out) hb)
                                          have n3_ := Aside0.mk (Kd.R_below (by (with_reducible repeat (first | apply Kd.R_alloc | apply Kd.R_drewN | apply Kd.R_drew)); exact HO_17.out) hb)
                                          have n4_ := Aside0.mk (below_step (by repeat (first | (with_reducible first | exact HB.out | apply below_alloc | apply pw_below_drewN | apply below_drew1) | exact HB.out)) hb)
                                          clear HO_9
                                          clear HO_10
                                          clear HO_12
                                          clear HO_17
                                          clear HB
                                          have HO_9 := n0_
                                          have HO_10 := n1_
                                          have HO_12 := n2_
                                          have HO_17 := n3_
                                          have HB := n4_
                                          clear n0_ n1_ n2_ n3_ n4_
                                          (try clear hb)
                                          (try clear hb2)
                                          (try clear hk)
                                          (try clear hi)
                                          refine hK.out _ _ ⟨HS0_, HS1_, HS2_, HS3_, HS4_, HS5_⟩ (fun hHeld => ?_)
                                          clear hK K
                                          refine norm_ (a' := ?_) ?_ ?_
                                          rotate_left
                                          · show Act.put _ (some 137) _ = _
                                            simp only [Act.put, List.setIfInBounds_toArray, List.set_cons_zero, List.set_cons_succ, i64_w, i32_w]
                                            rfl
                                          refine pure_ (i := 9) (N := some 128) (v := ?_) (a' := ?_) #[true, true, true, true, true, true, true, true, true, true, false, false, false, false, false] rfl rfl (any_of HT_.out (by kernel_rfl)) (fun _ _ _ h => h) (Or.inl ⟨by rfl, ?_⟩) ?_ ?_
                                          rotate_left
                                          · intro w'
                                            go_simp
                                            with_reducible rfl
                                          rotate_left
                                          · simp only [Act.put, List.setIfInBounds_toArray, List.set_cons_zero, List.set_cons_succ, i64_w, i32_w]
                                            rfl
                                          refine pure_ (i := 10) (N := some 138) (v := ?_) (a' := ?_) #[true, true, true, true, true, true, true, true, true, true, true, false, false, false, false] rfl rfl (any_of HT_.out (by kernel_rfl)) (fun _ _ _ h => h) (Or.inl ⟨by rfl, ?_⟩) ?_ ?_
                                          rotate_left
                                          · intro w'
                                            go_simp
                                            with_reducible rfl
                                          rotate_left
                                          · simp only [Act.put, List.setIfInBounds_toArray, List.set_cons_zero, List.set_cons_succ, i64_w, i32_w]
                                            rfl
                                          refine pure_ (i := 11) (N := some 139) (v := ?_) (a' := ?_) #[true, true, true, true, true, true, true, true, true, true, true, true, false, false, false] rfl rfl (any_of HT_.out (by kernel_rfl)) (fun _ _ _ h => h) (Or.inl ⟨by rfl, ?_⟩) ?_ ?_
                                          rotate_left
                                          · intro w'
                                            go_simp
                                            with_reducible rfl
                                          rotate_left
                                          · simp only [Act.put, List.setIfInBounds_toArray, List.set_cons_zero, List.set_cons_succ, i64_w, i32_w]
                                            rfl
                                          refine one_ (i := 12) (N := some 20) #[true, true, true, true, true, true, true, true, true, true, true, true, true, false, false] rfl rfl (one_of HT_.out (by kernel_rfl)) (by decide) (fun K hK => ?_)
                                          refine box_step ?hg (N := 20) ?hd (cs := #[.bool false, .string (⟨#[]⟩ : ByteArray), .string (⟨#[]⟩ : ByteArray)]) (t := 31) ?hr ?_; (case hd => rfl); (case hg => rfl); (case hr => first | (go_simp; done) | (go_simp; rfl))
                                          intro gb490 hg w83 hbox hb
                                          have HS0_ := (hb.cell (World.block_lt_of_cell? _ _ (hHeld.1))).trans (hHeld.1)
                                          have HS1_ := (hb.cell (World.block_lt_of_cell? _ _ (hHeld.2.1))).trans (hHeld.2.1)
                                          have HS2_ := (hb.cell (World.block_lt_of_cell? _ _ (hHeld.2.2.1))).trans (hHeld.2.2.1)
                                          have HS3_ := (hb.cell (World.block_lt_of_cell? _ _ (hHeld.2.2.2.1))).trans (hHeld.2.2.2.1)
                                          have HS4_ := (hb.cell (World.block_lt_of_cell? _ _ (hHeld.2.2.2.2.1))).trans (hHeld.2.2.2.2.1)
                                          have HS5_ := (hb.cell (World.block_lt_of_cell? _ _ (hHeld.2.2.2.2.2))).trans (hHeld.2.2.2.2.2)
                                          have n0_ := Aside0.mk (Kd.R_below (Kd.R_elderB (by (with_reducible repeat (first | apply Kd.R_alloc | apply Kd.R_drewN | apply Kd.R_drew)); exact HO_9.out) gb490 (Nat.le_of_eq hg.symm)) hb)
                                          have n1_ := Aside0.mk (Kd.R_below (Kd.R_elderB (by (with_reducible repeat (first | apply Kd.R_alloc | apply Kd.R_drewN | apply Kd.R_drew)); exact HO_10.out) gb490 (Nat.le_of_eq hg.symm)) hb)
                                          have n2_ := Aside0.mk (Kd.R_below (Kd.R_elderB (by (with_reducible repeat (first | apply Kd.R_alloc | apply Kd.R_drewN | apply Kd.R_drew)); exact HO_12.out) gb490 (Nat.le_of_eq hg.symm)) hb)
                                          have n3_ := Aside0.mk (Kd.R_below (Kd.R_elderB (by (with_reducible repeat (first | apply Kd.R_alloc | apply Kd.R_drewN | apply Kd.R_drew)); exact HO_17.out) gb490 (Nat.le_of_eq hg.symm)) hb)
                                          have n4_ := Aside0.mk (below_step (by repeat (first | (with_reducible first | exact HB.out | apply below_alloc | apply pw_below_drewN | apply below_drew1) | exact HB.out)) hb)
                                          have n5_ := Aside0.mk (hbox)
                                          have n6_ := Aside0.mk ((by rw [hg]; exact (below_size (by repeat (first | (with_reducible first | exact HB.out | apply below_alloc | apply pw_below_drewN | apply below_drew1) | exact HB.out))) : w.heap.size ≤ gb490))
                                          have n7_ := Aside0.mk ((by rw [hg]; exact (below_size (by repeat (first | (with_reducible first | exact HB.out | apply below_alloc | apply pw_below_drewN | apply below_drew1) | exact HB.out))) : w.heap.size ≤ gb490))
                                          clear HO_9
                                          clear HO_10
                                          clear HO_12
                                          clear HO_17
                                          clear HB
                                          have HO_9 := n0_
                                          have HO_10 := n1_
                                          have HO_12 := n2_
                                          have HO_17 := n3_
                                          have HB := n4_
                                          have BK490 := n5_
                                          have GW490 := n6_
                                          have GE490 := n7_
                                          clear n0_ n1_ n2_ n3_ n4_ n5_ n6_ n7_
                                          clear hb hbox hg
                                          refine hK.out _ _ ⟨HS0_, HS1_, HS2_, HS3_, HS4_, HS5_⟩ (fun hHeld => ?_)
                                          clear hK K
                                          refine norm_ (a' := ?_) ?_ ?_
                                          rotate_left
                                          · show Act.put _ (some 20) _ = _
                                            simp only [Act.put, List.setIfInBounds_toArray, List.set_cons_zero, List.set_cons_succ, i64_w, i32_w]
                                            rfl
                                          exact norm_ (by simp only [putAll, Act.put, List.setIfInBounds_toArray, List.set_cons_zero, List.set_cons_succ]) (hCont (gb490) _ ⟨hHeld, (by (with_reducible repeat (first | apply Kd.R_alloc | apply Kd.R_drewN | apply Kd.R_drew)); exact Kd.R_mono HO_10.out (fun _ hk => ⟨hk.1.2.1, ⟨hk.1.2.2, ⟨hk.1.1, hk.2⟩⟩⟩)), (by (with_reducible repeat (first | apply Kd.R_alloc | apply Kd.R_drewN | apply Kd.R_drew)); exact Kd.R_mono HO_12.out (fun _ hk => ⟨hk.1.2.1, ⟨hk.1.2.2, ⟨hk.1.1, hk.2⟩⟩⟩)), (by (with_reducible repeat (first | apply Kd.R_alloc | apply Kd.R_drewN | apply Kd.R_drew)); exact Kd.R_mono HO_17.out (fun _ hk => ⟨hk.1.2.1, ⟨hk.1.2.2, ⟨hk.1.1, hk.2⟩⟩⟩)), (by (with_reducible repeat (first | apply Kd.R_alloc | apply Kd.R_drewN | apply Kd.R_drew)); exact Kd.R_mono HO_9.out (fun _ hk => ⟨hk.1.1, ⟨hk.1.2.1, ⟨hk.1.2.2, hk.2⟩⟩⟩)), (by (with_reducible repeat (first | refine blk_drewN ?_ _ | refine blk_drew ?_ | refine blk_alloc ?_ _)); exact BK490.out), GW490.out, GE490.out, (by repeat (first | (with_reducible first | exact HB.out | apply below_alloc | apply pw_below_drewN | apply below_drew1 | refine below_set ?_ GE490.out) | exact HB.out))⟩)
                                        · skip
                                          refine box_step ?hg (N := 20) ?hd (cs := #[.bool false, .string (⟨#[]⟩ : ByteArray), .string (⟨#[]⟩ : ByteArray)]) (t := 31) ?hr ?_; (case hd => rfl); (case hg => rfl); (case hr => first | (go_simp; done) | (go_simp; rfl))
                                          intro gb490 hg w82 hbox hb
                                          have HS0_ := (hb.cell (World.block_lt_of_cell? _ _ (hHeld.1))).trans (hHeld.1)
                                          have HS1_ := (hb.cell (World.block_lt_of_cell? _ _ (hHeld.2.1))).trans (hHeld.2.1)
                                          have HS2_ := (hb.cell (World.block_lt_of_cell? _ _ (hHeld.2.2.1))).trans (hHeld.2.2.1)
                                          have HS3_ := (hb.cell (World.block_lt_of_cell? _ _ (hHeld.2.2.2.1))).trans (hHeld.2.2.2.1)
                                          have HS4_ := (hb.cell (World.block_lt_of_cell? _ _ (hHeld.2.2.2.2.1))).trans (hHeld.2.2.2.2.1)
                                          have HS5_ := (hb.cell (World.block_lt_of_cell? _ _ (hHeld.2.2.2.2.2))).trans (hHeld.2.2.2.2.2)
                                          have n0_ := Aside0.mk (Kd.R_below (Kd.R_elderB (by (with_reducible repeat (first | apply Kd.R_alloc | apply Kd.R_drewN | apply Kd.R_drew)); exact HO_9.out) gb490 (Nat.le_of_eq hg.symm)) hb)
                                          have n1_ := Aside0.mk (Kd.R_below (Kd.R_elderB (by (with_reducible repeat (first | apply Kd.R_alloc | apply Kd.R_drewN | apply Kd.R_drew)); exact HO_10.out) gb490 (Nat.le_of_eq hg.symm)) hb)
                                          have n2_ := Aside0.mk (Kd.R_below (Kd.R_elderB (by (with_reducible repeat (first | apply Kd.R_alloc | apply Kd.R_drewN | apply Kd.R_drew)); exact HO_12.out) gb490 (Nat.le_of_eq hg.symm)) hb)
                                          have n3_ := Aside0.mk (Kd.R_below (Kd.R_elderB (by (with_reducible repeat (first | apply Kd.R_alloc | apply Kd.R_drewN | apply Kd.R_drew)); exact HO_17.out) gb490 (Nat.le_of_eq hg.symm)) hb)
                                          have n4_ := Aside0.mk (below_step (by repeat (first | (with_reducible first | exact HB.out | apply below_alloc | apply pw_below_drewN | apply below_drew1) | exact HB.out)) hb)
                                          have n5_ := Aside0.mk (hbox)
                                          have n6_ := Aside0.mk ((by rw [hg]; exact (below_size (by repeat (first | (with_reducible first | exact HB.out | apply below_alloc | apply pw_below_drewN | apply below_drew1) | exact HB.out))) : w.heap.size ≤ gb490))
                                          have n7_ := Aside0.mk ((by rw [hg]; exact (below_size (by repeat (first | (with_reducible first | exact HB.out | apply below_alloc | apply pw_below_drewN | apply below_drew1) | exact HB.out))) : w.heap.size ≤ gb490))
                                          clear HO_9
                                          clear HO_10
                                          clear HO_12
                                          clear HO_17
                                          clear HB
                                          have HO_9 := n0_
                                          have HO_10 := n1_
                                          have HO_12 := n2_
                                          have HO_17 := n3_
                                          have HB := n4_
                                          have BK490 := n5_
                                          have GW490 := n6_
                                          have GE490 := n7_
                                          clear n0_ n1_ n2_ n3_ n4_ n5_ n6_ n7_
                                          clear hb hbox hg
                                          refine hK.out _ _ ⟨HS0_, HS1_, HS2_, HS3_, HS4_, HS5_⟩ (fun hHeld => ?_)
                                          clear hK K
                                          refine norm_ (a' := ?_) ?_ ?_
                                          rotate_left
                                          · show Act.put _ (some 20) _ = _
                                            simp only [Act.put, List.setIfInBounds_toArray, List.set_cons_zero, List.set_cons_succ, i64_w, i32_w]
                                            rfl
                                          refine one_ (i := 8) (N := some 137) #[true, true, true, true, true, true, true, true, true, false, false, false, true, false, false] rfl rfl (one_of HT_.out (by kernel_rfl)) (by decide) (fun K hK => ?_)
                                          refine goes_ Tryz.func22 (by kernel_rfl) rfl #[.agg #[.bool ((rd_T31 t462 x19_4).f0), .string ((rd_T31 t462 x19_4).f1), .string ((rd_T31 t462 x19_4).f2)], .agg #[.bool ((rd_T31 t466 x19_4).f0), .string ((rd_T31 t466 x19_4).f1), .string ((rd_T31 t466 x19_4).f2)]] (by rfl) rfl rfl (by (try simp only [List.map_toArray, List.map_cons, List.map_nil]); first | done | rfl | (simp only [List.length_drop, List.length_take]; rfl)) ?_
                                          with_reducible refine (ratio_Add.calls ((rd_T31 t462 x19_4).f0) ((rd_T31 t462 x19_4).f1) ((rd_T31 t462 x19_4).f2) ((rd_T31 t466 x19_4).f0) ((rd_T31 t466 x19_4).f1) ((rd_T31 t466 x19_4).f2) t486 t487 t488 t489 _ ?side1 A65.out).mono ?_
                                          (case side1 => exact Tab.below HTAB.out (by repeat (first | (with_reducible first | exact HB.out | apply below_alloc | apply pw_below_drewN | apply below_drew1 | refine below_set ?_ GE490.out) | exact HB.out)))
                                          rintro e w83 ⟨rfl, hb⟩
                                          have HS0_ := (hb.cell (World.block_lt_of_cell? _ _ (hHeld.1))).trans (hHeld.1)
                                          have HS1_ := (hb.cell (World.block_lt_of_cell? _ _ (hHeld.2.1))).trans (hHeld.2.1)
                                          have HS2_ := (hb.cell (World.block_lt_of_cell? _ _ (hHeld.2.2.1))).trans (hHeld.2.2.1)
                                          have HS3_ := (hb.cell (World.block_lt_of_cell? _ _ (hHeld.2.2.2.1))).trans (hHeld.2.2.2.1)
                                          have HS4_ := (hb.cell (World.block_lt_of_cell? _ _ (hHeld.2.2.2.2.1))).trans (hHeld.2.2.2.2.1)
                                          have HS5_ := (hb.cell (World.block_lt_of_cell? _ _ (hHeld.2.2.2.2.2))).trans (hHeld.2.2.2.2.2)
                                          refine ⟨_, rfl, ?_⟩
                                          have n0_ := Aside0.mk (Kd.R_below (by (with_reducible repeat (first | apply Kd.R_alloc | apply Kd.R_drewN | apply Kd.R_drew)); exact HO_9.out) hb)
                                          have n1_ := Aside0.mk (Kd.R_below (by (with_reducible repeat (first | apply Kd.R_alloc | apply Kd.R_drewN | apply Kd.R_drew)); exact HO_10.out) hb)
                                          have n2_ := Aside0.mk (Kd.R_below (by (with_reducible repeat (first | apply Kd.R_alloc | apply Kd.R_drewN | apply Kd.R_drew)); exact HO_12.out) hb)
                                          have n3_ := Aside0.mk (Kd.R_below (by (with_reducible repeat (first | apply Kd.R_alloc | apply Kd.R_drewN | apply Kd.R_drew)); exact HO_17.out) hb)
                                          have n4_ := Aside0.mk (blk_below (g := gb490) (o := .cells #[.bool false, .string (⟨#[]⟩ : ByteArray), .string (⟨#[]⟩ : ByteArray)] 31 (0, 0)) (by (with_reducible repeat (first | refine blk_drewN ?_ _ | refine blk_drew ?_ | refine blk_alloc ?_ _)); exact BK490.out) hb)
                                          have n5_ := Aside0.mk (below_step (by repeat (first | (with_reducible first | exact HB.out | apply below_alloc | apply pw_below_drewN | apply below_drew1 | refine below_set ?_ GE490.out) | exact HB.out)) hb)
                                          clear HO_9
                                          clear HO_10
                                          clear HO_12
                                          clear HO_17
                                          clear BK490
                                          clear HB
                                          have HO_9 := n0_
                                          have HO_10 := n1_
                                          have HO_12 := n2_
                                          have HO_17 := n3_
                                          have BK490 := n4_
                                          have HB := n5_
                                          clear n0_ n1_ n2_ n3_ n4_ n5_
                                          (try clear hb)
                                          (try clear hb2)
                                          (try clear hk)
                                          (try clear hi)
                                          refine hK.out _ _ ⟨HS0_, HS1_, HS2_, HS3_, HS4_, HS5_⟩ (fun hHeld => ?_)
                                          clear hK K
                                          refine norm_ (a' := ?_) ?_ ?_
                                          rotate_left
                                          · show Act.put _ (some 137) _ = _
                                            simp only [Act.put, List.setIfInBounds_toArray, List.set_cons_zero, List.set_cons_succ, i64_w, i32_w]
                                            rfl
                                          refine pure_ (i := 9) (N := some 128) (v := ?_) (a' := ?_) #[true, true, true, true, true, true, true, true, true, true, false, false, true, false, false] rfl rfl (any_of HT_.out (by kernel_rfl)) (fun _ _ _ h => h) (Or.inl ⟨by rfl, ?_⟩) ?_ ?_
                                          rotate_left
                                          · intro w'
                                            go_simp
                                            with_reducible rfl
                                          rotate_left
                                          · simp only [Act.put, List.setIfInBounds_toArray, List.set_cons_zero, List.set_cons_succ, i64_w, i32_w]
                                            rfl
                                          refine pure_ (i := 10) (N := some 138) (v := ?_) (a' := ?_) #[true, true, true, true, true, true, true, true, true, true, true, false, true, false, false] rfl rfl (any_of HT_.out (by kernel_rfl)) (fun _ _ _ h => h) (Or.inl ⟨by rfl, ?_⟩) ?_ ?_
                                          rotate_left
                                          · intro w'
                                            go_simp
                                            with_reducible rfl
                                          rotate_left
                                          · simp only [Act.put, List.setIfInBounds_toArray, List.set_cons_zero, List.set_cons_succ, i64_w, i32_w]
                                            rfl
                                          refine pure_ (i := 11) (N := some 139) (v := ?_) (a' := ?_) #[true, true, true, true, true, true, true, true, true, true, true, true, true, false, false] rfl rfl (any_of HT_.out (by kernel_rfl)) (fun _ _ _ h => h) (Or.inl ⟨by rfl, ?_⟩) ?_ ?_
                                          rotate_left
                                          · intro w'
                                            go_simp
                                            with_reducible rfl
                                          rotate_left
                                          · simp only [Act.put, List.setIfInBounds_toArray, List.set_cons_zero, List.set_cons_succ, i64_w, i32_w]
                                            rfl
                                          exact norm_ (by simp only [putAll, Act.put, List.setIfInBounds_toArray, List.set_cons_zero, List.set_cons_succ]) (hCont (gb490) _ ⟨hHeld, (by (with_reducible repeat (first | apply Kd.R_alloc | apply Kd.R_drewN | apply Kd.R_drew)); exact Kd.R_mono HO_10.out (fun _ hk => ⟨hk.1.2.1, ⟨hk.1.2.2, ⟨hk.1.1, hk.2⟩⟩⟩)), (by (with_reducible repeat (first | apply Kd.R_alloc | apply Kd.R_drewN | apply Kd.R_drew)); exact Kd.R_mono HO_12.out (fun _ hk => ⟨hk.1.2.1, ⟨hk.1.2.2, ⟨hk.1.1, hk.2⟩⟩⟩)), (by (with_reducible repeat (first | apply Kd.R_alloc | apply Kd.R_drewN | apply Kd.R_drew)); exact Kd.R_mono HO_17.out (fun _ hk => ⟨hk.1.2.1, ⟨hk.1.2.2, ⟨hk.1.1, hk.2⟩⟩⟩)), (by (with_reducible repeat (first | apply Kd.R_alloc | apply Kd.R_drewN | apply Kd.R_drew)); exact Kd.R_mono HO_9.out (fun _ hk => ⟨hk.1.1, ⟨hk.1.2.1, ⟨hk.1.2.2, hk.2⟩⟩⟩)), (by (with_reducible repeat (first | refine blk_drewN ?_ _ | refine blk_drew ?_ | refine blk_alloc ?_ _)); exact BK490.out), GW490.out, GE490.out, (by repeat (first | (with_reducible first | exact HB.out | apply below_alloc | apply pw_below_drewN | apply below_drew1 | refine below_set ?_ GE490.out) | exact HB.out))⟩)
                                      rintro gb490 w84 ⟨hS_, h0_, h1_, h2_, h3_, h4_, h5_, h6_, h7_⟩
                                      have n0_ : Aside0 (Kd.R k31 31 w84 w.heap.size (fun k_ => some k_ ≠ (.slice (some ad485) t466.length co81 : Value).ownBlock ∧ some k_ ≠ (v482 : Value).ownBlock ∧ some k_ ≠ (u9 : Value).ownBlock ∧ k_ ≠ gb490) (.slice (some ad484) t462.length co80) t462) := ⟨h0_⟩
                                      have n1_ : Aside0 (Kd.R k31 31 w84 w.heap.size (fun k_ => some k_ ≠ (.slice (some ad484) t462.length co80 : Value).ownBlock ∧ some k_ ≠ (v482 : Value).ownBlock ∧ some k_ ≠ (u9 : Value).ownBlock ∧ k_ ≠ gb490) (.slice (some ad485) t466.length co81) t466) := ⟨h1_⟩
                                      have n2_ : Aside0 (Kd.R k31 31 w84 w.heap.size (fun k_ => some k_ ≠ (.slice (some ad484) t462.length co80 : Value).ownBlock ∧ some k_ ≠ (.slice (some ad485) t466.length co81 : Value).ownBlock ∧ some k_ ≠ (u9 : Value).ownBlock ∧ k_ ≠ gb490) v482 t480) := ⟨h2_⟩
                                      have n3_ : Aside0 (Kd.R k31 31 w84 w.heap.size (fun k_ => some k_ ≠ (.slice (some ad484) t462.length co80 : Value).ownBlock ∧ some k_ ≠ (.slice (some ad485) t466.length co81 : Value).ownBlock ∧ some k_ ≠ (v482 : Value).ownBlock ∧ k_ ≠ gb490) u9 x9_4) := ⟨h3_⟩
                                      have n4_ : Aside0 (w84.heap[gb490]? = some (.cells #[.bool false, .string (⟨#[]⟩ : ByteArray), .string (⟨#[]⟩ : ByteArray)] 31 (0, 0))) := ⟨h4_⟩
                                      have n5_ : Aside0 (w.heap.size ≤ gb490) := ⟨h5_⟩
                                      have n6_ : Aside0 (w.heap.size ≤ gb490) := ⟨h6_⟩
                                      have n7_ : Aside0 (Below w.heap.size w w84) := ⟨h7_⟩
                                      clear HO_9
                                      clear HO_10
                                      clear HO_12
                                      clear HO_17
                                      clear HB
                                      clear h0_ h1_ h2_ h3_ h4_ h5_ h6_ h7_
                                      have HO_10 := n0_
                                      have HO_12 := n1_
                                      have HO_17 := n2_
                                      have HO_9 := n3_
                                      have BK490 := n4_
                                      have GW490 := n5_
                                      have GE490 := n6_
                                      have HB := n7_
                                      clear n0_ n1_ n2_ n3_ n4_ n5_ n6_ n7_
                                      have hHeld : w84.cell? (ad484.add ((x19_4).toNat * 3)) = some (.bool ((rd_T31 t462 x19_4).f0)) ∧ w84.cell? ⟨(ad484.add ((x19_4).toNat * 3)).block, (ad484.add ((x19_4).toNat * 3)).off + 1, none⟩ = some (.string ((rd_T31 t462 x19_4).f1)) ∧ w84.cell? ⟨(ad484.add ((x19_4).toNat * 3)).block, (ad484.add ((x19_4).toNat * 3)).off + 2, none⟩ = some (.string ((rd_T31 t462 x19_4).f2)) ∧ w84.cell? (ad485.add ((x19_4).toNat * 3)) = some (.bool ((rd_T31 t466 x19_4).f0)) ∧ w84.cell? ⟨(ad485.add ((x19_4).toNat * 3)).block, (ad485.add ((x19_4).toNat * 3)).off + 1, none⟩ = some (.string ((rd_T31 t466 x19_4).f1)) ∧ w84.cell? ⟨(ad485.add ((x19_4).toNat * 3)).block, (ad485.add ((x19_4).toNat * 3)).off + 2, none⟩ = some (.string ((rd_T31 t466 x19_4).f2)) := hS_
                                      refine norm_ (a' := ?_) ?_ ?_
                                      rotate_left
                                      · simp only [putAll, Act.put, List.setIfInBounds_toArray, List.set_cons_zero, List.set_cons_succ]
                                        rfl
                                      refine one_ (i := 13) (N := none) #[true, true, true, true, true, true, true, true, true, true, true, true, true, true, false] rfl rfl (one_of HT_.out (by kernel_rfl)) (by decide) (fun K hK => ?_)
                                      have hs85 : w84.cell? ⟨gb490, 0, none⟩ = some (.bool false) := (blk_cell BK490.out 0).trans rfl
                                      have hfs85 := blk_frozen BK490.out 0
                                      have hs86 : w84.cell? ⟨gb490, 1, none⟩ = some (.string (⟨#[]⟩ : ByteArray)) := (blk_cell BK490.out 1).trans rfl
                                      have hfs86 := blk_frozen BK490.out 1
                                      have hs87 : w84.cell? ⟨gb490, 2, none⟩ = some (.string (⟨#[]⟩ : ByteArray)) := (blk_cell BK490.out 2).trans rfl
                                      have hfs87 := blk_frozen BK490.out 2
                                      refine skip_ (w1 := ?_) (by rfl) rfl ?_ ?_
                                      rotate_left
                                      · go_simp
                                        rfl
                                      refine hK.out _ _ ⟨((cell_far (p := ⟨gb490, _, none⟩) (by first | exact Kd.own_blk (Kd.R_away HO_10.out (fun _ hk => hk.2.2.2)) | (rw [add_block]; exact Kd.own_blk (Kd.R_away HO_10.out (fun _ hk => hk.2.2.2))) | (show (Addr.add _ _).block ≠ _; rw [add_block]; exact Kd.own_blk (Kd.R_away HO_10.out (fun _ hk => hk.2.2.2))) | (dsimp only; exact Kd.own_blk (Kd.R_away HO_10.out (fun _ hk => hk.2.2.2)))) _).trans (((cell_far (p := ⟨gb490, _, none⟩) (by first | exact Kd.own_blk (Kd.R_away HO_10.out (fun _ hk => hk.2.2.2)) | (rw [add_block]; exact Kd.own_blk (Kd.R_away HO_10.out (fun _ hk => hk.2.2.2))) | (show (Addr.add _ _).block ≠ _; rw [add_block]; exact Kd.own_blk (Kd.R_away HO_10.out (fun _ hk => hk.2.2.2))) | (dsimp only; exact Kd.own_blk (Kd.R_away HO_10.out (fun _ hk => hk.2.2.2)))) _).trans (((cell_far (p := ⟨gb490, _, none⟩) (by first | exact Kd.own_blk (Kd.R_away HO_10.out (fun _ hk => hk.2.2.2)) | (rw [add_block]; exact Kd.own_blk (Kd.R_away HO_10.out (fun _ hk => hk.2.2.2))) | (show (Addr.add _ _).block ≠ _; rw [add_block]; exact Kd.own_blk (Kd.R_away HO_10.out (fun _ hk => hk.2.2.2))) | (dsimp only; exact Kd.own_blk (Kd.R_away HO_10.out (fun _ hk => hk.2.2.2)))) _).trans (hHeld.1)))))), ((cell_far (p := ⟨gb490, _, none⟩) (by first | exact Kd.own_blk (Kd.R_away HO_10.out (fun _ hk => hk.2.2.2)) | (rw [add_block]; exact Kd.own_blk (Kd.R_away HO_10.out (fun _ hk => hk.2.2.2))) | (show (Addr.add _ _).block ≠ _; rw [add_block]; exact Kd.own_blk (Kd.R_away HO_10.out (fun _ hk => hk.2.2.2))) | (dsimp only; exact Kd.own_blk (Kd.R_away HO_10.out (fun _ hk => hk.2.2.2)))) _).trans (((cell_far (p := ⟨gb490, _, none⟩) (by first | exact Kd.own_blk (Kd.R_away HO_10.out (fun _ hk => hk.2.2.2)) | (rw [add_block]; exact Kd.own_blk (Kd.R_away HO_10.out (fun _ hk => hk.2.2.2))) | (show (Addr.add _ _).block ≠ _; rw [add_block]; exact Kd.own_blk (Kd.R_away HO_10.out (fun _ hk => hk.2.2.2))) | (dsimp only; exact Kd.own_blk (Kd.R_away HO_10.out (fun _ hk => hk.2.2.2)))) _).trans (((cell_far (p := ⟨gb490, _, none⟩) (by first | exact Kd.own_blk (Kd.R_away HO_10.out (fun _ hk => hk.2.2.2)) | (rw [add_block]; exact Kd.own_blk (Kd.R_away HO_10.out (fun _ hk => hk.2.2.2))) | (show (Addr.add _ _).block ≠ _; rw [add_block]; exact Kd.own_blk (Kd.R_away HO_10.out (fun _ hk => hk.2.2.2))) | (dsimp only; exact Kd.own_blk (Kd.R_away HO_10.out (fun _ hk => hk.2.2.2)))) _).trans (hHeld.2.1)))))), ((cell_far (p := ⟨gb490, _, none⟩) (by first | exact Kd.own_blk (Kd.R_away HO_10.out (fun _ hk => hk.2.2.2)) | (rw [add_block]; exact Kd.own_blk (Kd.R_away HO_10.out (fun _ hk => hk.2.2.2))) | (show (Addr.add _ _).block ≠ _; rw [add_block]; exact Kd.own_blk (Kd.R_away HO_10.out (fun _ hk => hk.2.2.2))) | (dsimp only; exact Kd.own_blk (Kd.R_away HO_10.out (fun _ hk => hk.2.2.2)))) _).trans (((cell_far (p := ⟨gb490, _, none⟩) (by first | exact Kd.own_blk (Kd.R_away HO_10.out (fun _ hk => hk.2.2.2)) | (rw [add_block]; exact Kd.own_blk (Kd.R_away HO_10.out (fun _ hk => hk.2.2.2))) | (show (Addr.add _ _).block ≠ _; rw [add_block]; exact Kd.own_blk (Kd.R_away HO_10.out (fun _ hk => hk.2.2.2))) | (dsimp only; exact Kd.own_blk (Kd.R_away HO_10.out (fun _ hk => hk.2.2.2)))) _).trans (((cell_far (p := ⟨gb490, _, none⟩) (by first | exact Kd.own_blk (Kd.R_away HO_10.out (fun _ hk => hk.2.2.2)) | (rw [add_block]; exact Kd.own_blk (Kd.R_away HO_10.out (fun _ hk => hk.2.2.2))) | (show (Addr.add _ _).block ≠ _; rw [add_block]; exact Kd.own_blk (Kd.R_away HO_10.out (fun _ hk => hk.2.2.2))) | (dsimp only; exact Kd.own_blk (Kd.R_away HO_10.out (fun _ hk => hk.2.2.2)))) _).trans (hHeld.2.2.1)))))), ((cell_far (p := ⟨gb490, _, none⟩) (by first | exact Kd.own_blk (Kd.R_away HO_12.out (fun _ hk => hk.2.2.2)) | (rw [add_block]; exact Kd.own_blk (Kd.R_away HO_12.out (fun _ hk => hk.2.2.2))) | (show (Addr.add _ _).block ≠ _; rw [add_block]; exact Kd.own_blk (Kd.R_away HO_12.out (fun _ hk => hk.2.2.2))) | (dsimp only; exact Kd.own_blk (Kd.R_away HO_12.out (fun _ hk => hk.2.2.2)))) _).trans (((cell_far (p := ⟨gb490, _, none⟩) (by first | exact Kd.own_blk (Kd.R_away HO_12.out (fun _ hk => hk.2.2.2)) | (rw [add_block]; exact Kd.own_blk (Kd.R_away HO_12.out (fun _ hk => hk.2.2.2))) | (show (Addr.add _ _).block ≠ _; rw [add_block]; exact Kd.own_blk (Kd.R_away HO_12.out (fun _ hk => hk.2.2.2))) | (dsimp only; exact Kd.own_blk (Kd.R_away HO_12.out (fun _ hk => hk.2.2.2)))) _).trans (((cell_far (p := ⟨gb490, _, none⟩) (by first | exact Kd.own_blk (Kd.R_away HO_12.out (fun _ hk => hk.2.2.2)) | (rw [add_block]; exact Kd.own_blk (Kd.R_away HO_12.out (fun _ hk => hk.2.2.2))) | (show (Addr.add _ _).block ≠ _; rw [add_block]; exact Kd.own_blk (Kd.R_away HO_12.out (fun _ hk => hk.2.2.2))) | (dsimp only; exact Kd.own_blk (Kd.R_away HO_12.out (fun _ hk => hk.2.2.2)))) _).trans (hHeld.2.2.2.1)))))), ((cell_far (p := ⟨gb490, _, none⟩) (by first | exact Kd.own_blk (Kd.R_away HO_12.out (fun _ hk => hk.2.2.2)) | (rw [add_block]; exact Kd.own_blk (Kd.R_away HO_12.out (fun _ hk => hk.2.2.2))) | (show (Addr.add _ _).block ≠ _; rw [add_block]; exact Kd.own_blk (Kd.R_away HO_12.out (fun _ hk => hk.2.2.2))) | (dsimp only; exact Kd.own_blk (Kd.R_away HO_12.out (fun _ hk => hk.2.2.2)))) _).trans (((cell_far (p := ⟨gb490, _, none⟩) (by first | exact Kd.own_blk (Kd.R_away HO_12.out (fun _ hk => hk.2.2.2)) | (rw [add_block]; exact Kd.own_blk (Kd.R_away HO_12.out (fun _ hk => hk.2.2.2))) | (show (Addr.add _ _).block ≠ _; rw [add_block]; exact Kd.own_blk (Kd.R_away HO_12.out (fun _ hk => hk.2.2.2))) | (dsimp only; exact Kd.own_blk (Kd.R_away HO_12.out (fun _ hk => hk.2.2.2)))) _).trans (((cell_far (p := ⟨gb490, _, none⟩) (by first | exact Kd.own_blk (Kd.R_away HO_12.out (fun _ hk => hk.2.2.2)) | (rw [add_block]; exact Kd.own_blk (Kd.R_away HO_12.out (fun _ hk => hk.2.2.2))) | (show (Addr.add _ _).block ≠ _; rw [add_block]; exact Kd.own_blk (Kd.R_away HO_12.out (fun _ hk => hk.2.2.2))) | (dsimp only; exact Kd.own_blk (Kd.R_away HO_12.out (fun _ hk => hk.2.2.2)))) _).trans (hHeld.2.2.2.2.1)))))), ((cell_far (p := ⟨gb490, _, none⟩) (by first | exact Kd.own_blk (Kd.R_away HO_12.out (fun _ hk => hk.2.2.2)) | (rw [add_block]; exact Kd.own_blk (Kd.R_away HO_12.out (fun _ hk => hk.2.2.2))) | (show (Addr.add _ _).block ≠ _; rw [add_block]; exact Kd.own_blk (Kd.R_away HO_12.out (fun _ hk => hk.2.2.2))) | (dsimp only; exact Kd.own_blk (Kd.R_away HO_12.out (fun _ hk => hk.2.2.2)))) _).trans (((cell_far (p := ⟨gb490, _, none⟩) (by first | exact Kd.own_blk (Kd.R_away HO_12.out (fun _ hk => hk.2.2.2)) | (rw [add_block]; exact Kd.own_blk (Kd.R_away HO_12.out (fun _ hk => hk.2.2.2))) | (show (Addr.add _ _).block ≠ _; rw [add_block]; exact Kd.own_blk (Kd.R_away HO_12.out (fun _ hk => hk.2.2.2))) | (dsimp only; exact Kd.own_blk (Kd.R_away HO_12.out (fun _ hk => hk.2.2.2)))) _).trans (((cell_far (p := ⟨gb490, _, none⟩) (by first | exact Kd.own_blk (Kd.R_away HO_12.out (fun _ hk => hk.2.2.2)) | (rw [add_block]; exact Kd.own_blk (Kd.R_away HO_12.out (fun _ hk => hk.2.2.2))) | (show (Addr.add _ _).block ≠ _; rw [add_block]; exact Kd.own_blk (Kd.R_away HO_12.out (fun _ hk => hk.2.2.2))) | (dsimp only; exact Kd.own_blk (Kd.R_away HO_12.out (fun _ hk => hk.2.2.2)))) _).trans (hHeld.2.2.2.2.2))))))⟩ (fun hHeld => ?_)
                                      clear hK K
                                      refine pure_ (i := 14) (N := some 21) (v := ?_) (a' := ?_) #[true, true, true, true, true, true, true, true, true, true, true, true, true, true, true] rfl rfl (any_of HT_.out (by kernel_rfl)) (fun _ _ _ h => h) (Or.inl ⟨by rfl, ?_⟩) ?_ ?_
                                      rotate_left
                                      · intro w'
                                        go_simp
                                        with_reducible rfl
                                      rotate_left
                                      · simp only [Act.put, List.setIfInBounds_toArray, List.set_cons_zero, List.set_cons_succ, i64_w, i32_w]
                                        rfl
                                      refine done_ (done_of HT_.out (by kernel_rfl)) ?_
                                      try go_wp2
                                      go_ret
                                      exact ⟨by first | rfl | (simp [errW_none, errW_some] <;> rfl) | (simp [*, errW_none, errW_some] <;> rfl), by repeat (first | (with_reducible first | exact HB.out | apply below_alloc | apply pw_below_drewN | apply below_drew1 | refine below_set ?_ GE490.out) | exact HB.out)⟩
                                  · rw [if_neg c64] at H
                                    exact absurd H (by simp)
                                · rw [if_neg c63] at H
                                  exact absurd H (by simp)
                              · rw [if_neg c62] at H
                                exact absurd H (by simp)
                            · replace c61 := Bool.eq_false_iff.mpr c61
                              subst c61
                              have H1 : (if t459 = true then ((customhouseref19_Same.f kj51 t480 x9_4).bind fun t494 => (some t494)) else (some false)) = some r := by rw [if_neg (show ¬ (false = true) by decide)] at H; exact H
                              clear H
                              have H := H1
                              clear H1
                              by_cases c88 : t459 = true
                              · subst c88
                                have H1 : ((customhouseref19_Same.f kj51 t480 x9_4).bind fun t494 => (some t494)) = some r := by rw [if_pos rfl] at H; exact H
                                clear H
                                have H := H1
                                clear H1
                                replace H := Option.bind_eq_some_iff.mp H
                                obtain ⟨t494, A890, H⟩ := H
                                replace H : (some t494) = some r := H
                                have A89 := Aside0.mk A890
                                clear A890
                                obtain rfl := Option.some.inj H
                                obtain ⟨Ao90, co90, eo90⟩ := Kd.R_slice HO_17.out
                                subst eo90
                                obtain ⟨Ao91, co91, eo91⟩ := Kd.R_slice HO_9.out
                                subst eo91
                                go_wp2_with (first | (go_at_call 14; (with_reducible refine (customhouseref19_Same.calls kj51 _ _ t480 _ _ x9_4 t494 _ ?side1 ?side2 ?side3 ?side4 A89.out).mono ?_); (case side1 => repeat (first | exact (Kd.R_reads' HO_17.out).2.2 | (with_reducible refine Kd.C_alloc ?_ _) | (with_reducible refine Kd.C_drewN ?_ _) | (with_reducible refine Kd.C_drew ?_))); (case side2 => exact (Kd.R_reads' HO_17.out).2.1); (case side3 => repeat (first | exact (Kd.R_reads' HO_9.out).2.2 | (with_reducible refine Kd.C_alloc ?_ _) | (with_reducible refine Kd.C_drewN ?_ _) | (with_reducible refine Kd.C_drew ?_))); (case side4 => exact (Kd.R_reads' HO_9.out).2.1); rintro e w' ⟨rfl, ⟨nd, rfl⟩⟩))
                                go_ret
                                exact ⟨by first | rfl | (simp [errW_none, errW_some] <;> rfl) | (simp [*, errW_none, errW_some] <;> rfl), by repeat (first | (with_reducible first | exact HB.out | apply below_alloc | apply pw_below_drewN | apply below_drew1) | exact HB.out)⟩
                              · replace c88 := Bool.eq_false_iff.mpr c88
                                subst c88
                                have H1 : (some false) = some r := by rw [if_neg (show ¬ (false = true) by decide)] at H; exact H
                                clear H
                                have H := H1
                                clear H1
                                obtain rfl := Option.some.inj H
                                go_wp2
                                go_ret
                                exact ⟨by first | rfl | (simp [errW_none, errW_some] <;> rfl) | (simp [*, errW_none, errW_some] <;> rfl), by repeat (first | (with_reducible first | exact HB.out | apply below_alloc | apply pw_below_drewN | apply below_drew1) | exact HB.out)⟩
end Go.Proofs.YtmkanjcehhbmlaaGreatDoor.Pr
end
