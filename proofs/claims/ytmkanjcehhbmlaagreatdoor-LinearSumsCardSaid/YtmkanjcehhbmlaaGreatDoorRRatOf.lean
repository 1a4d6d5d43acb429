/- ratio.Of's closure and ratio.Of. -/
import Derived.Test.YtmkanjcehhbmlaaGreatDoorRBuild
import Derived.Test.YtmkanjcehhbmlaaGreatDoorRFmt
import Derived.Test.YtmkanjcehhbmlaaGreatDoorRGN
import Derived.Test.YtmkanjcehhbmlaaGreatDoorRGN2
import Derived.Test.YtmkanjcehhbmlaaGreatDoorRGN3
import Derived.Test.YtmkanjcehhbmlaaGreatDoorRGW
import Derived.Test.YtmkanjcehhbmlaaGreatDoorRGW2
import Derived.Test.YtmkanjcehhbmlaaGreatDoorRNatApply
import Derived.Test.YtmkanjcehhbmlaaGreatDoorRNatS
import Derived.Test.YtmkanjcehhbmlaaGreatDoorRNum
import Derived.Test.YtmkanjcehhbmlaaGreatDoorRNumAdd
import Derived.Test.YtmkanjcehhbmlaaGreatDoorRNumCmp
import Derived.Test.YtmkanjcehhbmlaaGreatDoorRNumDiv
import Derived.Test.YtmkanjcehhbmlaaGreatDoorRNumIs
import Derived.Test.YtmkanjcehhbmlaaGreatDoorRNumMul
import Derived.Test.YtmkanjcehhbmlaaGreatDoorRNumOps
import Derived.Test.YtmkanjcehhbmlaaGreatDoorRNumParse
import Derived.Test.YtmkanjcehhbmlaaGreatDoorRNumText
import Derived.Test.YtmkanjcehhbmlaaGreatDoorRNumVal
import Derived.Test.YtmkanjcehhbmlaaGreatDoorRPrA1
import Derived.Test.YtmkanjcehhbmlaaGreatDoorRPrA11
import Derived.Test.YtmkanjcehhbmlaaGreatDoorRPrA4
import Derived.Test.YtmkanjcehhbmlaaGreatDoorRPrA5
import Derived.Test.YtmkanjcehhbmlaaGreatDoorRPrB1
import Derived.Test.YtmkanjcehhbmlaaGreatDoorRPrB2
import Derived.Test.YtmkanjcehhbmlaaGreatDoorRRatOps
import Derived.Test.YtmkanjcehhbmlaaGreatDoorRRatProd
import Derived.Test.YtmkanjcehhbmlaaGreatDoorRRatVal
import Derived.Test.YtmkanjcehhbmlaaGreatDoorRRatWrap
import Derived.Test.YtmkanjcehhbmlaaGreatDoorRShelf
import Derived.Test.YtmkanjcehhbmlaaGreatDoorRSpec
import Derived.Test.YtmkanjcehhbmlaaGreatDoorRTab
import Derived.Test.YtmkanjcehhbmlaaGreatDoorRWLast
set_option linter.all false
section
namespace Go.Proofs.YtmkanjcehhbmlaaGreatDoor.Pr
set_option linter.unusedSimpArgs false
set_option linter.unusedVariables false
set_option exponentiation.threshold 400
open Go.RowKit Go.Shelf Go.Proofs.YtmkanjcehhbmlaaGreatDoorW.PrintWords Go.Proofs.YtmkanjcehhbmlaaGreatDoorW.PrintLast Go.Proofs.YtmkanjcehhbmlaaGreatDoorW.PrintMore
theorem trim_itoa (n : Int) : Lib.trimPrefix (Lib.itoa n) [45] = Sp.decL n.natAbs := by
  unfold Lib.itoa
  split
  · rfl
  · rename_i h
    rw [show n.natAbs = n.toNat by omega]
    show Lib.trimPrefix (Sp.decL n.toNat) [45] = _
    cases hd : Sp.decL n.toNat with
    | nil => rfl
    | cons c r =>
      have hc := dec_digs n.toNat c (by rw [hd]; simp)
      unfold Sp.isDig at hc
      simp only [Bool.and_eq_true, decide_eq_true_eq] at hc
      have hne : c ≠ 45 := by rintro rfl; exact absurd hc.1 (by decide)
      unfold Lib.trimPrefix Lib.hasPrefix
      simp [hne, Ne.symm hne]
set_option maxRecDepth 100000 in
set_option maxHeartbeats 1000000 in
theorem of1_calls (n : Int) (h0 : -9223372036854775808 ≤ n) (h1 : n ≤ 9223372036854775807) (w : World) (hTab : Tab w) :
    Calls Tryz.prog 55 #[.int .i64 n] w fun e w' => e = .returned (.string (Sp.dec n.natAbs)) ∧ Below w.heap.size w w' := by
  have HI := Lib.hid (Tryz.strconv_Itoa n h0 h1 w hTab)
  have HP := Lib.hid (fun w => Tryz.strings_TrimPrefix ⟨(Lib.itoa n).toArray⟩ ⟨#[45]⟩ w)
  have HE : Hid ((⟨(Lib.trimPrefix (Lib.itoa n) [45]).toArray⟩ : ByteArray) = Sp.dec n.natAbs) := Lib.hid (by rw [trim_itoa]; rfl)
  clear hTab
  go_enter Tryz.func55, Tryz.ntmps55
  go_wp2_with (first
    | (go_at_call 57; with_reducible refine HI.out.mono ?_; rintro e w1 ⟨rfl, k, os, hw⟩; have hb : Below w.heap.size w w1 := (by rw [hw]; exact Lib.below_grow w.heap.size w (Nat.le_refl _) k os); clear hw)
    | (go_at_call 56; with_reducible refine (HP.out _).mono ?_; rintro e w2 ⟨rfl, hw2⟩; rw [show (⟨(Lib.trimPrefix (⟨(Lib.itoa n).toArray⟩ : ByteArray).data.toList (⟨#[45]⟩ : ByteArray).data.toList).toArray⟩ : ByteArray) = Sp.dec n.natAbs from HE.out]))
  go_ret
  exact ⟨rfl, by first | exact hb | (rw [hw2]; exact hb)⟩
set_option maxRecDepth 100000 in
set_option maxHeartbeats 1000000 in
theorem of_zero (a : Int) (w : World) :
    Calls Tryz.prog 38 #[.int .i64 a, .int .i64 0] w fun e w' => e = .returned (.tuple #[.agg #[.bool false, .string ⟨#[]⟩, .string ⟨#[]⟩], .int .i64 15]) ∧ Below w.heap.size w w' := by
  go_enter Tryz.func38, Tryz.ntmps38
  go_wp2
  have g := World.alloc_heap_new w (.cells #[.bool false, .string ⟨#[]⟩, .string ⟨#[]⟩] 31)
  refine bodyPost_ret (results_ct rfl _ _ w.heap.size 31 _ (0, 0) _ rfl g Tryz.underlying31 rfl (by kernel_rfl)) rfl ?_
  exact ⟨rfl, (Below.refl _ w).alloc (Nat.le_refl _) _⟩
set_option maxRecDepth 100000 in
set_option maxHeartbeats 1000000 in
theorem of_some (a b : Int) (ha0 : -9223372036854775808 ≤ a) (ha1 : a ≤ 9223372036854775807) (hb0 : -9223372036854775808 ≤ b) (hb1 : b ≤ 9223372036854775807) (hb : b ≠ 0) (w : World) (hTab : Tab w) :
    Calls Tryz.prog 38 #[.int .i64 a, .int .i64 b] w fun e w' => e = .returned (.tuple #[.agg #[.bool (Sp.okR (mkRat (sg (decide (a < 0) != decide (b < 0)) a.natAbs) b.natAbs)).1, .string (Sp.okR (mkRat (sg (decide (a < 0) != decide (b < 0)) a.natAbs) b.natAbs)).2.1, .string (Sp.okR (mkRat (sg (decide (a < 0) != decide (b < 0)) a.natAbs) b.natAbs)).2.2.1], .int .i64 0]) ∧ Below w.heap.size w w' := by
  have hbz : (b == 0) = false := beq_eq_false_iff_ne.2 hb
  have p : (18446744073709551616 : Nat) ≤ 10 ^ 300 := Nat.le_trans (by decide : (18446744073709551616 : Nat) ≤ 10 ^ 20) (Nat.pow_le_pow_right (by omega) (by omega))
  have hlow := lowest_val (decide (a < 0) != decide (b < 0)) a.natAbs b.natAbs (by omega) (by generalize 10 ^ 300 = Q at *; omega) (by generalize 10 ^ 300 = Q at *; omega)
  have HLOW := Lib.hid (fun w hT => ratio_lowest.calls _ _ _ _ _ _ _ w hT hlow)
  have HA := Lib.hid (fun w hT => of1_calls a ha0 ha1 w hT)
  have HB := Lib.hid (fun w hT => of1_calls b hb0 hb1 w hT)
  have HT := Lib.hid hTab
  have HB0 : Hid (∀ o, Below w.heap.size w (w.alloc o)) := Lib.hid (fun o => (Below.refl _ w).alloc (Nat.le_refl _) o)
  have HG := Lib.hid (World.alloc_heap_new w (.cells #[.bool false, .string ⟨#[]⟩, .string ⟨#[]⟩] 31))
  clear hlow hTab p hb ha0 ha1 hb0 hb1
  go_enter Tryz.func38, Tryz.ntmps38
  go_wp2_with fail
  refine (HA.out _ (HT.out.below (HB0.out _))).mono ?_
  rintro e w1 ⟨rfl, hb1⟩
  have HW := Lib.hid ((HB0.out _).trans (hb1.mono (by simp)))
  have HR := Lib.hid ((hb1.block w.heap.size (by simp)).trans HG.out)
  clear hb1
  go_wp2_with (first
    | (go_at_call 55; with_reducible refine (HB.out _ (HT.out.below HW.out)).mono ?_; rintro e w2 ⟨rfl, hb2⟩; have hr := (hb2.block w.heap.size (Array.getElem?_eq_some_iff.1 HR.out).1).trans HR.out; have HR := Lib.hid hr; have HW := Lib.hid (HW.out.trans (hb2.mono HW.out.size)); clear hb2 hr)
    | (go_at_call 58; rw [show (!(decide (a < 0) == decide (b < 0))) = (decide (a < 0) != decide (b < 0)) from rfl]; with_reducible refine (HLOW.out _ (HT.out.below HW.out)).mono ?_; rintro e w3 ⟨rfl, hb3⟩; have hr := (hb3.block w.heap.size (Array.getElem?_eq_some_iff.1 HR.out).1).trans HR.out; obtain ⟨k0, k1, k2, f0, f1, f2⟩ := box3 hr; have HR := Lib.hid hr; have HW := Lib.hid (HW.out.trans (hb3.mono HW.out.size)); clear hb3 hr))
  refine bodyPost_ret (results_ct rfl _ _ w.heap.size 31 _ (0, 0) _ rfl (set3 HR.out _ _ _) Tryz.underlying31 rfl (by kernel_rfl)) rfl ?_
  exact ⟨rfl, ((HW.out.setCell (p := ⟨w.heap.size, 0, none⟩) (Nat.le_refl _) _).setCell (p := ⟨w.heap.size, 1, none⟩) (Nat.le_refl _) _).setCell (p := ⟨w.heap.size, 2, none⟩) (Nat.le_refl _) _⟩
end Go.Proofs.YtmkanjcehhbmlaaGreatDoor.Pr
end
