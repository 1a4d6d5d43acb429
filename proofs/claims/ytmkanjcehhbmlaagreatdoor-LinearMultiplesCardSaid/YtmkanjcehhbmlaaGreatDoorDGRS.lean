/- ratio.Add, Sub, Mul, Div over run; Sub's and Div's closures. (Written by gen_wrap.py.) ratio.Sub's closure. ratio.Of's closure and ratio.Of. The contracts of package ratio. (Written by gen_rats.py.) -/
import Derived.Deep.RegionHeld3
import Derived.Test.YtmkanjcehhbmlaaGreatDoorDBuild
import Derived.Test.YtmkanjcehhbmlaaGreatDoorDFmt
import Derived.Test.YtmkanjcehhbmlaaGreatDoorDGN
import Derived.Test.YtmkanjcehhbmlaaGreatDoorDGN2
import Derived.Test.YtmkanjcehhbmlaaGreatDoorDGN3
import Derived.Test.YtmkanjcehhbmlaaGreatDoorDGRR
import Derived.Test.YtmkanjcehhbmlaaGreatDoorDGW
import Derived.Test.YtmkanjcehhbmlaaGreatDoorDGW2
import Derived.Test.YtmkanjcehhbmlaaGreatDoorDNatApply
import Derived.Test.YtmkanjcehhbmlaaGreatDoorDNatS
import Derived.Test.YtmkanjcehhbmlaaGreatDoorDNum
import Derived.Test.YtmkanjcehhbmlaaGreatDoorDNumAdd
import Derived.Test.YtmkanjcehhbmlaaGreatDoorDNumCmp
import Derived.Test.YtmkanjcehhbmlaaGreatDoorDNumDiv
import Derived.Test.YtmkanjcehhbmlaaGreatDoorDNumIs
import Derived.Test.YtmkanjcehhbmlaaGreatDoorDNumMul
import Derived.Test.YtmkanjcehhbmlaaGreatDoorDNumOps
import Derived.Test.YtmkanjcehhbmlaaGreatDoorDNumParse
import Derived.Test.YtmkanjcehhbmlaaGreatDoorDNumText
import Derived.Test.YtmkanjcehhbmlaaGreatDoorDNumVal
import Derived.Test.YtmkanjcehhbmlaaGreatDoorDPrA1
import Derived.Test.YtmkanjcehhbmlaaGreatDoorDPrA11
import Derived.Test.YtmkanjcehhbmlaaGreatDoorDPrA4
import Derived.Test.YtmkanjcehhbmlaaGreatDoorDPrA5
import Derived.Test.YtmkanjcehhbmlaaGreatDoorDPrB1
import Derived.Test.YtmkanjcehhbmlaaGreatDoorDPrB2
import Derived.Test.YtmkanjcehhbmlaaGreatDoorDRatOps
import Derived.Test.YtmkanjcehhbmlaaGreatDoorDRatProd
import Derived.Test.YtmkanjcehhbmlaaGreatDoorDRatSum
import Derived.Test.YtmkanjcehhbmlaaGreatDoorDRatVal
import Derived.Test.YtmkanjcehhbmlaaGreatDoorDShelf
import Derived.Test.YtmkanjcehhbmlaaGreatDoorDSpec
import Derived.Test.YtmkanjcehhbmlaaGreatDoorDTab
import Derived.Test.YtmkanjcehhbmlaaGreatDoorDWLast
set_option linter.all false
section
namespace Go.Proofs.YtmkanjcehhbmlaaGreatDoor.Pr
set_option linter.unusedSimpArgs false
set_option linter.unusedVariables false
open Go.RowKit Go.Shelf Go.Proofs.YtmkanjcehhbmlaaGreatDoorW.PrintWords Go.Proofs.YtmkanjcehhbmlaaGreatDoorW.PrintLast Go.Proofs.YtmkanjcehhbmlaaGreatDoorW.PrintMore
theorem three (w : World) (o0 o1 o2 : Obj) (W : World) (hW : W = ((w.alloc o0).alloc o1).alloc o2) :
    W.heap[w.heap.size]? = some o0 ∧ W.heap[w.heap.size + 1]? = some o1 ∧ W.heap[w.heap.size + 2]? = some o2 ∧ Below w.heap.size w W := by
  subst hW
  refine ⟨?_, ?_, ?_, ((((Below.refl _ w).alloc (Nat.le_refl _) _).alloc (by simp) _).alloc (by simp; omega) _)⟩
  all_goals simp only [alloc_heap, World.size_alloc]
  all_goals (repeat' split)
  all_goals first | rfl | (exfalso; omega) | (exfalso; exact ‹¬True› trivial)
set_option maxRecDepth 100000 in
set_option maxHeartbeats 2000000 in
theorem wrap_add (n1 n2 : Bool) (x1 y1 x2 y2 : ByteArray) (q0 : Bool) (q1 q2 : ByteArray) (q3 : Int) (w : World) (hTab : Tab w)
    (hc : ∀ W, Tab W → Calls Tryz.prog 42 #[.agg #[.bool false, .func (.func 43) #[] #[]], .agg #[.bool n1, .string x1, .string y1], .agg #[.bool n2, .string x2, .string y2]] W fun e w' => e = .returned (.tuple #[.agg #[.bool q0, .string q1, .string q2], .int .i64 q3]) ∧ Below W.heap.size W w') :
    Calls Tryz.prog 22 #[.agg #[.bool n1, .string x1, .string y1], .agg #[.bool n2, .string x2, .string y2]] w fun e w' => e = .returned (.tuple #[.agg #[.bool q0, .string q1, .string q2], .int .i64 q3]) ∧ Below w.heap.size w w' := by
  have hp : ∀ W : World, W = ((w.alloc (.cells #[.bool n1, .string x1, .string y1] 31)).alloc (.cells #[.bool n2, .string x2, .string y2] 31)).alloc (.cells #[.bool false, .string ⟨#[]⟩, .string ⟨#[]⟩] 31) →
      Calls Tryz.prog 42 #[.agg #[.bool false, .func (.func 43) #[] #[]], .agg #[.bool n1, .string x1, .string y1], .agg #[.bool n2, .string x2, .string y2]] W fun e w' => e = .returned (.tuple #[.agg #[.bool q0, .string q1, .string q2], .int .i64 q3]) ∧ w'.heap[w.heap.size + 2]? = some (.cells #[.bool false, .string ⟨#[]⟩, .string ⟨#[]⟩] 31 (0, 0)) ∧ Below w.heap.size w w' := fun W hW => by
    obtain ⟨g0, g1, g2, hb⟩ := three w _ _ _ W hW
    refine (hc W (hTab.below hb)).mono ?_
    rintro e w' ⟨rfl, hb2⟩
    exact ⟨rfl, (hb2.block _ (Array.getElem?_eq_some_iff.1 g2).1).trans g2, hb.trans (hb2.mono hb.size)⟩
  have HP := Lib.hid hp
  clear hp hc hTab
  go_enter Tryz.func22, Tryz.ntmps22
  go_wp2_with (go_at_call 42; refine (HP.out _ rfl).mono ?_; rintro e w1 ⟨rfl, g2, hb⟩; obtain ⟨k0, k1, k2, f0, f1, f2⟩ := box3 g2; have G2 := Lib.hid g2; have HB := Lib.hid hb; clear g2 hb)
  refine bodyPost_ret (results_ct rfl _ _ (w.heap.size + 2) 31 _ (0, 0) _ rfl (set3 G2.out _ _ _) Tryz.underlying31 rfl (by kernel_rfl)) rfl ?_
  exact ⟨rfl, ((HB.out.setCell (p := ⟨w.heap.size + 2, 0, none⟩) (by show _ ≤ w.heap.size + 2; omega) _).setCell (p := ⟨w.heap.size + 2, 1, none⟩) (by show _ ≤ w.heap.size + 2; omega) _).setCell (p := ⟨w.heap.size + 2, 2, none⟩) (by show _ ≤ w.heap.size + 2; omega) _⟩
set_option maxRecDepth 100000 in
set_option maxHeartbeats 2000000 in
theorem wrap_mul (n1 n2 : Bool) (x1 y1 x2 y2 : ByteArray) (q0 : Bool) (q1 q2 : ByteArray) (q3 : Int) (w : World) (hTab : Tab w)
    (hc : ∀ W, Tab W → Calls Tryz.prog 42 #[.agg #[.bool false, .func (.func 41) #[] #[]], .agg #[.bool n1, .string x1, .string y1], .agg #[.bool n2, .string x2, .string y2]] W fun e w' => e = .returned (.tuple #[.agg #[.bool q0, .string q1, .string q2], .int .i64 q3]) ∧ Below W.heap.size W w') :
    Calls Tryz.prog 21 #[.agg #[.bool n1, .string x1, .string y1], .agg #[.bool n2, .string x2, .string y2]] w fun e w' => e = .returned (.tuple #[.agg #[.bool q0, .string q1, .string q2], .int .i64 q3]) ∧ Below w.heap.size w w' := by
  have hp : ∀ W : World, W = ((w.alloc (.cells #[.bool n1, .string x1, .string y1] 31)).alloc (.cells #[.bool n2, .string x2, .string y2] 31)).alloc (.cells #[.bool false, .string ⟨#[]⟩, .string ⟨#[]⟩] 31) →
      Calls Tryz.prog 42 #[.agg #[.bool false, .func (.func 41) #[] #[]], .agg #[.bool n1, .string x1, .string y1], .agg #[.bool n2, .string x2, .string y2]] W fun e w' => e = .returned (.tuple #[.agg #[.bool q0, .string q1, .string q2], .int .i64 q3]) ∧ w'.heap[w.heap.size + 2]? = some (.cells #[.bool false, .string ⟨#[]⟩, .string ⟨#[]⟩] 31 (0, 0)) ∧ Below w.heap.size w w' := fun W hW => by
    obtain ⟨g0, g1, g2, hb⟩ := three w _ _ _ W hW
    refine (hc W (hTab.below hb)).mono ?_
    rintro e w' ⟨rfl, hb2⟩
    exact ⟨rfl, (hb2.block _ (Array.getElem?_eq_some_iff.1 g2).1).trans g2, hb.trans (hb2.mono hb.size)⟩
  have HP := Lib.hid hp
  clear hp hc hTab
  go_enter Tryz.func21, Tryz.ntmps21
  go_wp2_with (go_at_call 42; refine (HP.out _ rfl).mono ?_; rintro e w1 ⟨rfl, g2, hb⟩; obtain ⟨k0, k1, k2, f0, f1, f2⟩ := box3 g2; have G2 := Lib.hid g2; have HB := Lib.hid hb; clear g2 hb)
  refine bodyPost_ret (results_ct rfl _ _ (w.heap.size + 2) 31 _ (0, 0) _ rfl (set3 G2.out _ _ _) Tryz.underlying31 rfl (by kernel_rfl)) rfl ?_
  exact ⟨rfl, ((HB.out.setCell (p := ⟨w.heap.size + 2, 0, none⟩) (by show _ ≤ w.heap.size + 2; omega) _).setCell (p := ⟨w.heap.size + 2, 1, none⟩) (by show _ ≤ w.heap.size + 2; omega) _).setCell (p := ⟨w.heap.size + 2, 2, none⟩) (by show _ ≤ w.heap.size + 2; omega) _⟩
set_option maxRecDepth 100000 in
set_option maxHeartbeats 2000000 in
theorem wrap_sub (n1 n2 : Bool) (x1 y1 x2 y2 : ByteArray) (q0 : Bool) (q1 q2 : ByteArray) (q3 : Int) (w : World) (hTab : Tab w)
    (hc : ∀ W, Tab W → Calls Tryz.prog 42 #[.agg #[.bool false, .func (.func 47) #[] #[]], .agg #[.bool n1, .string x1, .string y1], .agg #[.bool n2, .string x2, .string y2]] W fun e w' => e = .returned (.tuple #[.agg #[.bool q0, .string q1, .string q2], .int .i64 q3]) ∧ Below W.heap.size W w') :
    Calls Tryz.prog 33 #[.agg #[.bool n1, .string x1, .string y1], .agg #[.bool n2, .string x2, .string y2]] w fun e w' => e = .returned (.tuple #[.agg #[.bool q0, .string q1, .string q2], .int .i64 q3]) ∧ Below w.heap.size w w' := by
  have hp : ∀ W : World, W = ((w.alloc (.cells #[.bool n1, .string x1, .string y1] 31)).alloc (.cells #[.bool n2, .string x2, .string y2] 31)).alloc (.cells #[.bool false, .string ⟨#[]⟩, .string ⟨#[]⟩] 31) →
      Calls Tryz.prog 42 #[.agg #[.bool false, .func (.func 47) #[] #[]], .agg #[.bool n1, .string x1, .string y1], .agg #[.bool n2, .string x2, .string y2]] W fun e w' => e = .returned (.tuple #[.agg #[.bool q0, .string q1, .string q2], .int .i64 q3]) ∧ w'.heap[w.heap.size + 2]? = some (.cells #[.bool false, .string ⟨#[]⟩, .string ⟨#[]⟩] 31 (0, 0)) ∧ Below w.heap.size w w' := fun W hW => by
    obtain ⟨g0, g1, g2, hb⟩ := three w _ _ _ W hW
    refine (hc W (hTab.below hb)).mono ?_
    rintro e w' ⟨rfl, hb2⟩
    exact ⟨rfl, (hb2.block _ (Array.getElem?_eq_some_iff.1 g2).1).trans g2, hb.trans (hb2.mono hb.size)⟩
  have HP := Lib.hid hp
  clear hp hc hTab
  go_enter Tryz.func33, Tryz.ntmps33
  go_wp2_with (go_at_call 42; refine (HP.out _ rfl).mono ?_; rintro e w1 ⟨rfl, g2, hb⟩; obtain ⟨k0, k1, k2, f0, f1, f2⟩ := box3 g2; have G2 := Lib.hid g2; have HB := Lib.hid hb; clear g2 hb)
  refine bodyPost_ret (results_ct rfl _ _ (w.heap.size + 2) 31 _ (0, 0) _ rfl (set3 G2.out _ _ _) Tryz.underlying31 rfl (by kernel_rfl)) rfl ?_
  exact ⟨rfl, ((HB.out.setCell (p := ⟨w.heap.size + 2, 0, none⟩) (by show _ ≤ w.heap.size + 2; omega) _).setCell (p := ⟨w.heap.size + 2, 1, none⟩) (by show _ ≤ w.heap.size + 2; omega) _).setCell (p := ⟨w.heap.size + 2, 2, none⟩) (by show _ ≤ w.heap.size + 2; omega) _⟩
set_option maxRecDepth 100000 in
set_option maxHeartbeats 2000000 in
theorem wrap_div (n1 n2 : Bool) (x1 y1 x2 y2 : ByteArray) (q0 : Bool) (q1 q2 : ByteArray) (q3 : Int) (w : World) (hTab : Tab w)
    (hc : ∀ W, Tab W → Calls Tryz.prog 42 #[.agg #[.bool true, .func (.func 46) #[] #[]], .agg #[.bool n1, .string x1, .string y1], .agg #[.bool n2, .string x2, .string y2]] W fun e w' => e = .returned (.tuple #[.agg #[.bool q0, .string q1, .string q2], .int .i64 q3]) ∧ Below W.heap.size W w') :
    Calls Tryz.prog 31 #[.agg #[.bool n1, .string x1, .string y1], .agg #[.bool n2, .string x2, .string y2]] w fun e w' => e = .returned (.tuple #[.agg #[.bool q0, .string q1, .string q2], .int .i64 q3]) ∧ Below w.heap.size w w' := by
  have hp : ∀ W : World, W = ((w.alloc (.cells #[.bool n1, .string x1, .string y1] 31)).alloc (.cells #[.bool n2, .string x2, .string y2] 31)).alloc (.cells #[.bool false, .string ⟨#[]⟩, .string ⟨#[]⟩] 31) →
      Calls Tryz.prog 42 #[.agg #[.bool true, .func (.func 46) #[] #[]], .agg #[.bool n1, .string x1, .string y1], .agg #[.bool n2, .string x2, .string y2]] W fun e w' => e = .returned (.tuple #[.agg #[.bool q0, .string q1, .string q2], .int .i64 q3]) ∧ w'.heap[w.heap.size + 2]? = some (.cells #[.bool false, .string ⟨#[]⟩, .string ⟨#[]⟩] 31 (0, 0)) ∧ Below w.heap.size w w' := fun W hW => by
    obtain ⟨g0, g1, g2, hb⟩ := three w _ _ _ W hW
    refine (hc W (hTab.below hb)).mono ?_
    rintro e w' ⟨rfl, hb2⟩
    exact ⟨rfl, (hb2.block _ (Array.getElem?_eq_some_iff.1 g2).1).trans g2, hb.trans (hb2.mono hb.size)⟩
  have HP := Lib.hid hp
  clear hp hc hTab
  go_enter Tryz.func31, Tryz.ntmps31
  go_wp2_with (go_at_call 42; refine (HP.out _ rfl).mono ?_; rintro e w1 ⟨rfl, g2, hb⟩; obtain ⟨k0, k1, k2, f0, f1, f2⟩ := box3 g2; have G2 := Lib.hid g2; have HB := Lib.hid hb; clear g2 hb)
  refine bodyPost_ret (results_ct rfl _ _ (w.heap.size + 2) 31 _ (0, 0) _ rfl (set3 G2.out _ _ _) Tryz.underlying31 rfl (by kernel_rfl)) rfl ?_
  exact ⟨rfl, ((HB.out.setCell (p := ⟨w.heap.size + 2, 0, none⟩) (by show _ ≤ w.heap.size + 2; omega) _).setCell (p := ⟨w.heap.size + 2, 1, none⟩) (by show _ ≤ w.heap.size + 2; omega) _).setCell (p := ⟨w.heap.size + 2, 2, none⟩) (by show _ ≤ w.heap.size + 2; omega) _⟩
set_option maxRecDepth 100000 in
set_option maxHeartbeats 2000000 in
theorem wrap_div1 (n1 n2 : Bool) (x1 y1 x2 y2 : ByteArray) (q0 : Bool) (q1 q2 : ByteArray) (q3 : Int) (w : World) (hTab : Tab w)
    (hc : ∀ W, Tab W → Calls Tryz.prog 41 #[.agg #[.bool n1, .string x1, .string y1], .agg #[.bool n2, .string y2, .string x2]] W fun e w' => e = .returned (.tuple #[.agg #[.bool q0, .string q1, .string q2], .int .i64 q3]) ∧ Below W.heap.size W w') :
    Calls Tryz.prog 46 #[.agg #[.bool n1, .string x1, .string y1], .agg #[.bool n2, .string x2, .string y2]] w fun e w' => e = .returned (.tuple #[.agg #[.bool q0, .string q1, .string q2], .int .i64 q3]) ∧ Below w.heap.size w w' := by
  have hp : ∀ W : World, W = ((w.alloc (.cells #[.bool n1, .string x1, .string y1] 31)).alloc (.cells #[.bool n2, .string x2, .string y2] 31)).alloc (.cells #[.bool false, .string ⟨#[]⟩, .string ⟨#[]⟩] 31) →
      Calls Tryz.prog 41 #[.agg #[.bool n1, .string x1, .string y1], .agg #[.bool n2, .string y2, .string x2]] W fun e w' => e = .returned (.tuple #[.agg #[.bool q0, .string q1, .string q2], .int .i64 q3]) ∧ w'.heap[w.heap.size + 2]? = some (.cells #[.bool false, .string ⟨#[]⟩, .string ⟨#[]⟩] 31 (0, 0)) ∧ Below w.heap.size w w' := fun W hW => by
    obtain ⟨g0, g1, g2, hb⟩ := three w _ _ _ W hW
    refine (hc W (hTab.below hb)).mono ?_
    rintro e w' ⟨rfl, hb2⟩
    exact ⟨rfl, (hb2.block _ (Array.getElem?_eq_some_iff.1 g2).1).trans g2, hb.trans (hb2.mono hb.size)⟩
  have HP := Lib.hid hp
  clear hp hc hTab
  go_enter Tryz.func46, Tryz.ntmps46
  go_wp2_with (go_at_call 41; refine (HP.out _ rfl).mono ?_; rintro e w1 ⟨rfl, g2, hb⟩; obtain ⟨k0, k1, k2, f0, f1, f2⟩ := box3 g2; have G2 := Lib.hid g2; have HB := Lib.hid hb; clear g2 hb)
  refine bodyPost_ret (results_ct rfl _ _ (w.heap.size + 2) 31 _ (0, 0) _ rfl (set3 G2.out _ _ _) Tryz.underlying31 rfl (by kernel_rfl)) rfl ?_
  exact ⟨rfl, ((HB.out.setCell (p := ⟨w.heap.size + 2, 0, none⟩) (by show _ ≤ w.heap.size + 2; omega) _).setCell (p := ⟨w.heap.size + 2, 1, none⟩) (by show _ ≤ w.heap.size + 2; omega) _).setCell (p := ⟨w.heap.size + 2, 2, none⟩) (by show _ ≤ w.heap.size + 2; omega) _⟩
end Go.Proofs.YtmkanjcehhbmlaaGreatDoor.Pr
end

section
namespace Go.Proofs.YtmkanjcehhbmlaaGreatDoor.Pr
set_option linter.unusedSimpArgs false
set_option linter.unusedVariables false
open Go.RowKit Go.Shelf Go.Proofs.YtmkanjcehhbmlaaGreatDoorW.PrintWords Go.Proofs.YtmkanjcehhbmlaaGreatDoorW.PrintLast Go.Proofs.YtmkanjcehhbmlaaGreatDoorW.PrintMore
set_option maxRecDepth 100000 in
set_option maxHeartbeats 2000000 in
theorem wrap_sub1 (n1 n2 m2 : Bool) (x1 y1 x2 y2 : ByteArray) (q0 : Bool) (q1 q2 : ByteArray) (q3 : Int) (w : World) (hTab : Tab w) (ho : ratio_opposite.f n2 x2 y2 = some (m2, x2, y2))
    (hc : ∀ W, Tab W → Calls Tryz.prog 43 #[.agg #[.bool n1, .string x1, .string y1], .agg #[.bool m2, .string x2, .string y2]] W fun e w' => e = .returned (.tuple #[.agg #[.bool q0, .string q1, .string q2], .int .i64 q3]) ∧ Below W.heap.size W w') :
    Calls Tryz.prog 47 #[.agg #[.bool n1, .string x1, .string y1], .agg #[.bool n2, .string x2, .string y2]] w fun e w' => e = .returned (.tuple #[.agg #[.bool q0, .string q1, .string q2], .int .i64 q3]) ∧ Below w.heap.size w w' := by
  have HO := Lib.hid (fun w => ratio_opposite.calls n2 x2 y2 m2 x2 y2 w ho)
  have HC := Lib.hid hc
  have HT := Lib.hid hTab
  clear ho hc hTab
  go_enter Tryz.func47, Tryz.ntmps47
  go_wp2_with fail
  obtain ⟨w1, hw1⟩ : ∃ w1, ((w.alloc (.cells #[.bool n1, .string x1, .string y1] 31)).alloc (.cells #[.bool n2, .string x2, .string y2] 31)).alloc (.cells #[.bool false, .string ⟨#[]⟩, .string ⟨#[]⟩] 31) = w1 := ⟨_, rfl⟩
  obtain ⟨g0, g1, g2, hb⟩ := three w _ _ _ w1 hw1.symm
  rw [hw1]
  clear hw1
  have hN0 : w.heap.size < w1.heap.size := (Array.getElem?_eq_some_iff.1 g0).1
  have hN1 : w.heap.size + 1 < w1.heap.size := (Array.getElem?_eq_some_iff.1 g1).1
  have hN2 : w.heap.size + 1 + 1 < w1.heap.size := (Array.getElem?_eq_some_iff.1 g2).1
  have hS : ∀ W, Below w1.heap.size w1 W → ((W.cell? ⟨w.heap.size, 0, none⟩ = some (.bool n1) ∧ W.cell? ⟨w.heap.size, 1, none⟩ = some (.string x1) ∧ W.cell? ⟨w.heap.size, 2, none⟩ = some (.string y1)) ∧ (W.cell? ⟨w.heap.size + 1, 0, none⟩ = some (.bool n2) ∧ W.cell? ⟨w.heap.size + 1, 1, none⟩ = some (.string x2) ∧ W.cell? ⟨w.heap.size + 1, 2, none⟩ = some (.string y2))) ∧ Below w.heap.size w W := fun W hW => by
    obtain ⟨a0, a1, a2, _⟩ := box3 ((hW.block _ hN0).trans g0)
    obtain ⟨b0, b1, b2, _⟩ := box3 ((hW.block _ hN1).trans g1)
    exact ⟨⟨⟨a0, a1, a2⟩, b0, b1, b2⟩, hb.trans (hW.mono hb.size)⟩
  have hT : ∀ W0 : World, ∀ v0 v1 v2, Below w1.heap.size w1 W0 → (fun W => ((W.cell? ⟨w.heap.size, 0, none⟩ = some (.bool n1) ∧ W.cell? ⟨w.heap.size, 1, none⟩ = some (.string x1) ∧ W.cell? ⟨w.heap.size, 2, none⟩ = some (.string y1)) ∧ (W.cell? ⟨w.heap.size + 1, 0, none⟩ = some (.bool n2) ∧ W.cell? ⟨w.heap.size + 1, 1, none⟩ = some (.string x2) ∧ W.cell? ⟨w.heap.size + 1, 2, none⟩ = some (.string y2))) ∧ Below w.heap.size w W) (((W0.setCell ⟨w.heap.size + 1 + 1, 0, none⟩ v0).setCell ⟨w.heap.size + 1 + 1, 1, none⟩ v1).setCell ⟨w.heap.size + 1 + 1, 2, none⟩ v2) := fun W0 v0 v1 v2 hW0 => by
    obtain ⟨⟨⟨s1, s2, s3⟩, s4, s5, s6⟩, s7⟩ := hS W0 hW0
    have key : ∀ (p : Addr) u, p.block ≠ w.heap.size + 1 + 1 → W0.cell? p = some u → (((W0.setCell ⟨w.heap.size + 1 + 1, 0, none⟩ v0).setCell ⟨w.heap.size + 1 + 1, 1, none⟩ v1).setCell ⟨w.heap.size + 1 + 1, 2, none⟩ v2).cell? p = some u := fun p u hp hu =>
      (World.cell?_of_block (w := W0) (a := p) ((Below.heap_setCell _ _ _ _ hp).trans ((Below.heap_setCell _ _ _ _ hp).trans (Below.heap_setCell _ _ _ _ hp)))).trans hu
    exact ⟨⟨⟨key _ _ (by show w.heap.size ≠ _; omega) s1, key _ _ (by show w.heap.size ≠ _; omega) s2, key _ _ (by show w.heap.size ≠ _; omega) s3⟩, key _ _ (by show w.heap.size + 1 ≠ _; omega) s4, key _ _ (by show w.heap.size + 1 ≠ _; omega) s5, key _ _ (by show w.heap.size + 1 ≠ _; omega) s6⟩, ((s7.setCell (p := ⟨w.heap.size + 1 + 1, 0, none⟩) (by show _ ≤ w.heap.size + 1 + 1; omega) _).setCell (p := ⟨w.heap.size + 1 + 1, 1, none⟩) (by show _ ≤ w.heap.size + 1 + 1; omega) _).setCell (p := ⟨w.heap.size + 1 + 1, 2, none⟩) (by show _ ≤ w.heap.size + 1 + 1; omega) _⟩
  have HS := Lib.hid hS
  have HTT := Lib.hid hT
  have G2 := Lib.hid g2
  clear hS hT g0 g1 g2 hb
  go_region_held3 (fun W => ((W.cell? ⟨w.heap.size, 0, none⟩ = some (.bool n1) ∧ W.cell? ⟨w.heap.size, 1, none⟩ = some (.string x1) ∧ W.cell? ⟨w.heap.size, 2, none⟩ = some (.string y1)) ∧ (W.cell? ⟨w.heap.size + 1, 0, none⟩ = some (.bool n2) ∧ W.cell? ⟨w.heap.size + 1, 1, none⟩ = some (.string x2) ∧ W.cell? ⟨w.heap.size + 1, 2, none⟩ = some (.string y2))) ∧ Below w.heap.size w W)
    (first
      | exact HS.out _ (Below.refl _ w1).drew
      | exact HTT.out w3 _ _ _ hb13
      | exact HS.out _ hb13
      | exact HS.out _ hb12)
    (first
      | (go_at_call 48; with_reducible refine (HO.out _).mono ?_; rintro e w2 ⟨rfl, hb2⟩; have hb12 : Below w1.heap.size w1 w2 := ((Below.refl _ w1).drew).trans (hb2.mono (Nat.le_refl _)))
      | (go_at_call 43; with_reducible refine (HC.out _ (HT.out.below (HS.out _ hb12).2)).mono ?_; rintro e w3 ⟨rfl, hb3⟩; have hb13 : Below w1.heap.size w1 w3 := hb12.trans (hb3.mono hb12.size); have hg2 := box3 ((hb13.block _ hN2).trans G2.out); obtain ⟨k0, k1, k2, f0, f1, f2⟩ := hg2))
  go_wp2
  refine bodyPost_ret (results_ct rfl _ _ (w.heap.size + 1 + 1) 31 _ (0, 0) _ rfl (set3 ((hb13.block _ hN2).trans G2.out) _ _ _) Tryz.underlying31 rfl (by kernel_rfl)) rfl ?_
  exact ⟨rfl, (HTT.out w3 _ _ _ hb13).2⟩
end Go.Proofs.YtmkanjcehhbmlaaGreatDoor.Pr
end

section
namespace Go.Proofs.YtmkanjcehhbmlaaGreatDoor.Pr
set_option linter.unusedSimpArgs false
set_option linter.unusedVariables false
set_option exponentiation.threshold 400
open Go.RowKit Go.Shelf Go.Proofs.YtmkanjcehhbmlaaGreatDoorW.PrintWords Go.Proofs.YtmkanjcehhbmlaaGreatDoorW.PrintLast Go.Proofs.YtmkanjcehhbmlaaGreatDoorW.PrintMore
theorem trim_itoa (n : Int) : Lib.trimPrefix (Lib.itoa n) [45] = Sp.decL n.natAbs := by
  unfold Lib.itoa
  split
  · rfl
  · rename_i h
    rw [show n.natAbs = n.toNat by omega]
    show Lib.trimPrefix (Sp.decL n.toNat) [45] = _
    cases hd : Sp.decL n.toNat with
    | nil => rfl
    | cons c r =>
      have hc := dec_digs n.toNat c (by rw [hd]; simp)
      unfold Sp.isDig at hc
      simp only [Bool.and_eq_true, decide_eq_true_eq] at hc
      have hne : c ≠ 45 := by rintro rfl; exact absurd hc.1 (by decide)
      unfold Lib.trimPrefix Lib.hasPrefix
      simp [hne, Ne.symm hne]
set_option maxRecDepth 100000 in
set_option maxHeartbeats 1000000 in
theorem of1_calls (n : Int) (h0 : -9223372036854775808 ≤ n) (h1 : n ≤ 9223372036854775807) (w : World) (hTab : Tab w) :
    Calls Tryz.prog 55 #[.int .i64 n] w fun e w' => e = .returned (.string (Sp.dec n.natAbs)) ∧ Below w.heap.size w w' := by
  have HI := Lib.hid (Tryz.strconv_Itoa n h0 h1 w hTab)
  have HP := Lib.hid (fun w => Tryz.strings_TrimPrefix ⟨(Lib.itoa n).toArray⟩ ⟨#[45]⟩ w)
  have HE : Hid ((⟨(Lib.trimPrefix (Lib.itoa n) [45]).toArray⟩ : ByteArray) = Sp.dec n.natAbs) := Lib.hid (by rw [trim_itoa]; rfl)
  clear hTab
  go_enter Tryz.func55, Tryz.ntmps55
  go_wp2_with (first
    | (go_at_call 57; with_reducible refine HI.out.mono ?_; rintro e w1 ⟨rfl, k, os, hw⟩; have hb : Below w.heap.size w w1 := (by rw [hw]; exact Lib.below_grow w.heap.size w (Nat.le_refl _) k os); clear hw)
    | (go_at_call 56; with_reducible refine (HP.out _).mono ?_; rintro e w2 ⟨rfl, hw2⟩; rw [show (⟨(Lib.trimPrefix (⟨(Lib.itoa n).toArray⟩ : ByteArray).data.toList (⟨#[45]⟩ : ByteArray).data.toList).toArray⟩ : ByteArray) = Sp.dec n.natAbs from HE.out]))
  go_ret
  exact ⟨rfl, by first | exact hb | (rw [hw2]; exact hb)⟩
set_option maxRecDepth 100000 in
set_option maxHeartbeats 1000000 in
theorem of_zero (a : Int) (w : World) :
    Calls Tryz.prog 38 #[.int .i64 a, .int .i64 0] w fun e w' => e = .returned (.tuple #[.agg #[.bool false, .string ⟨#[]⟩, .string ⟨#[]⟩], .int .i64 15]) ∧ Below w.heap.size w w' := by
  go_enter Tryz.func38, Tryz.ntmps38
  go_wp2
  have g := World.alloc_heap_new w (.cells #[.bool false, .string ⟨#[]⟩, .string ⟨#[]⟩] 31)
  refine bodyPost_ret (results_ct rfl _ _ w.heap.size 31 _ (0, 0) _ rfl g Tryz.underlying31 rfl (by kernel_rfl)) rfl ?_
  exact ⟨rfl, (Below.refl _ w).alloc (Nat.le_refl _) _⟩
set_option maxRecDepth 100000 in
set_option maxHeartbeats 1000000 in
theorem of_some (a b : Int) (ha0 : -9223372036854775808 ≤ a) (ha1 : a ≤ 9223372036854775807) (hb0 : -9223372036854775808 ≤ b) (hb1 : b ≤ 9223372036854775807) (hb : b ≠ 0) (w : World) (hTab : Tab w) :
    Calls Tryz.prog 38 #[.int .i64 a, .int .i64 b] w fun e w' => e = .returned (.tuple #[.agg #[.bool (Sp.okR (mkRat (sg (decide (a < 0) != decide (b < 0)) a.natAbs) b.natAbs)).1, .string (Sp.okR (mkRat (sg (decide (a < 0) != decide (b < 0)) a.natAbs) b.natAbs)).2.1, .string (Sp.okR (mkRat (sg (decide (a < 0) != decide (b < 0)) a.natAbs) b.natAbs)).2.2.1], .int .i64 0]) ∧ Below w.heap.size w w' := by
  have hbz : (b == 0) = false := beq_eq_false_iff_ne.2 hb
  have p : (18446744073709551616 : Nat) ≤ 10 ^ 300 := Nat.le_trans (by decide : (18446744073709551616 : Nat) ≤ 10 ^ 20) (Nat.pow_le_pow_right (by omega) (by omega))
  have hlow := lowest_val (decide (a < 0) != decide (b < 0)) a.natAbs b.natAbs (by omega) (by generalize 10 ^ 300 = Q at *; omega) (by generalize 10 ^ 300 = Q at *; omega)
  have HLOW := Lib.hid (fun w hT => ratio_lowest.calls _ _ _ _ _ _ _ w hT hlow)
  have HA := Lib.hid (fun w hT => of1_calls a ha0 ha1 w hT)
  have HB := Lib.hid (fun w hT => of1_calls b hb0 hb1 w hT)
  have HT := Lib.hid hTab
  have HB0 : Hid (∀ o, Below w.heap.size w (w.alloc o)) := Lib.hid (fun o => (Below.refl _ w).alloc (Nat.le_refl _) o)
  have HG := Lib.hid (World.alloc_heap_new w (.cells #[.bool false, .string ⟨#[]⟩, .string ⟨#[]⟩] 31))
  clear hlow hTab p hb ha0 ha1 hb0 hb1
  go_enter Tryz.func38, Tryz.ntmps38
  go_wp2_with fail
  refine (HA.out _ (HT.out.below (HB0.out _))).mono ?_
  rintro e w1 ⟨rfl, hb1⟩
  have HW := Lib.hid ((HB0.out _).trans (hb1.mono (by simp)))
  have HR := Lib.hid ((hb1.block w.heap.size (by simp)).trans HG.out)
  clear hb1
  go_wp2_with (first
    | (go_at_call 55; with_reducible refine (HB.out _ (HT.out.below HW.out)).mono ?_; rintro e w2 ⟨rfl, hb2⟩; have hr := (hb2.block w.heap.size (Array.getElem?_eq_some_iff.1 HR.out).1).trans HR.out; have HR := Lib.hid hr; have HW := Lib.hid (HW.out.trans (hb2.mono HW.out.size)); clear hb2 hr)
    | (go_at_call 58; rw [show (!(decide (a < 0) == decide (b < 0))) = (decide (a < 0) != decide (b < 0)) from rfl]; with_reducible refine (HLOW.out _ (HT.out.below HW.out)).mono ?_; rintro e w3 ⟨rfl, hb3⟩; have hr := (hb3.block w.heap.size (Array.getElem?_eq_some_iff.1 HR.out).1).trans HR.out; obtain ⟨k0, k1, k2, f0, f1, f2⟩ := box3 hr; have HR := Lib.hid hr; have HW := Lib.hid (HW.out.trans (hb3.mono HW.out.size)); clear hb3 hr))
  refine bodyPost_ret (results_ct rfl _ _ w.heap.size 31 _ (0, 0) _ rfl (set3 HR.out _ _ _) Tryz.underlying31 rfl (by kernel_rfl)) rfl ?_
  exact ⟨rfl, ((HW.out.setCell (p := ⟨w.heap.size, 0, none⟩) (Nat.le_refl _) _).setCell (p := ⟨w.heap.size, 1, none⟩) (Nat.le_refl _) _).setCell (p := ⟨w.heap.size, 2, none⟩) (Nat.le_refl _) _⟩
end Go.Proofs.YtmkanjcehhbmlaaGreatDoor.Pr
end

section
namespace Go.Proofs.YtmkanjcehhbmlaaGreatDoor.Pr
set_option linter.unusedSimpArgs false
set_option linter.unusedVariables false
set_option exponentiation.threshold 400
open Go.RowKit Go.Shelf Go.Proofs.YtmkanjcehhbmlaaGreatDoorW.PrintWords Go.Proofs.YtmkanjcehhbmlaaGreatDoorW.PrintLast Go.Proofs.YtmkanjcehhbmlaaGreatDoorW.PrintMore
def ratio_Of.f (a b : Int) : Option (Bool × ByteArray × ByteArray × Int) := if (-9223372036854775808 ≤ a ∧ a ≤ 9223372036854775807) ∧ (-9223372036854775808 ≤ b ∧ b ≤ 9223372036854775807) then some (if b = 0 then Sp.err 15 else Sp.okR ((a : Rat) / b)) else none
def ratio_Add.f (a0_0 : Bool) (a0_1 a0_2 : ByteArray) (a1_0 : Bool) (a1_1 a1_2 : ByteArray) : Option (Bool × ByteArray × ByteArray × Int) := some (Sp.ratOp false (· + ·) a0_0 a0_1 a0_2 a1_0 a1_1 a1_2)
def ratio_Sub.f (a0_0 : Bool) (a0_1 a0_2 : ByteArray) (a1_0 : Bool) (a1_1 a1_2 : ByteArray) : Option (Bool × ByteArray × ByteArray × Int) := some (Sp.ratOp false (· - ·) a0_0 a0_1 a0_2 a1_0 a1_1 a1_2)
def ratio_Mul.f (a0_0 : Bool) (a0_1 a0_2 : ByteArray) (a1_0 : Bool) (a1_1 a1_2 : ByteArray) : Option (Bool × ByteArray × ByteArray × Int) := some (Sp.ratOp false (· * ·) a0_0 a0_1 a0_2 a1_0 a1_1 a1_2)
def ratio_Div.f (a0_0 : Bool) (a0_1 a0_2 : ByteArray) (a1_0 : Bool) (a1_1 a1_2 : ByteArray) : Option (Bool × ByteArray × ByteArray × Int) := some (Sp.ratOp true (· / ·) a0_0 a0_1 a0_2 a1_0 a1_1 a1_2)
/-- What run answers. -/
def runR (z : Bool) (n1 : Bool) (x1 y1 : ByteArray) (n2 : Bool) (x2 y2 : ByteArray) (q : Rat) : Sp.RE :=
  if !Sp.vld n1 x1 y1 || !Sp.vld n2 x2 y2 then Sp.err 1
  else if z && decide (Sp.nval x2 = 0) then Sp.err 15
  else if Sp.long x1 y1 || Sp.long x2 y2 then Sp.err 2
  else Sp.okR q
theorem vld_parts {n : Bool} {x y : ByteArray} (h : Sp.vld n x y = true) : Sp.isNat x = true ∧ Sp.isNat y = true ∧ Sp.nval y ≠ 0 ∧ Nat.gcd (Sp.nval x) (Sp.nval y) = 1 ∧ (n = true → Sp.nval x ≠ 0) := by
  unfold Sp.vld at h
  simp only [Bool.and_eq_true, decide_eq_true_eq, Bool.not_eq_true', Bool.and_eq_false_iff, decide_eq_false_iff_not] at h
  refine ⟨h.1.1.1.1, h.1.1.1.2, h.1.1.2, h.1.2, fun hn => ?_⟩
  rcases h.2 with h2 | h2
  · rw [hn] at h2; cases h2
  · exact h2
theorem zero48 {x : ByteArray} (h : Sp.isNat x = true) : x.toList = [48] ↔ Sp.nval x = 0 := by
  have := dec48 (Sp.nval x)
  rwa [dec_nval h] at this
theorem run_all (z : Bool) (g : Nat) (eg : ∀ args w, (callFunc g args).run Tryz.prog w = .ok (.enter g args) w) (n1 n2 : Bool) (x1 y1 x2 y2 : ByteArray) (q : Rat) (w : World) (hTab : Tab w)
    (hop : Sp.vld n1 x1 y1 = true → Sp.vld n2 x2 y2 = true → (z = true → Sp.nval x2 ≠ 0) → x1.size ≤ 140 → y1.size ≤ 140 → x2.size ≤ 140 → y2.size ≤ 140 → ∀ W, Tab W → Calls Tryz.prog g #[.agg #[.bool n1, .string x1, .string y1], .agg #[.bool n2, .string x2, .string y2]] W fun e w' => e = .returned (.tuple #[.agg #[.bool (Sp.okR q).1, .string (Sp.okR q).2.1, .string (Sp.okR q).2.2.1], .int .i64 0]) ∧ Below W.heap.size W w') :
    Calls Tryz.prog 42 #[.agg #[.bool z, .func (.func g) #[] #[]], .agg #[.bool n1, .string x1, .string y1], .agg #[.bool n2, .string x2, .string y2]] w fun e w' => e = .returned (.tuple #[.agg #[.bool (runR z n1 x1 y1 n2 x2 y2 q).1, .string (runR z n1 x1 y1 n2 x2 y2 q).2.1, .string (runR z n1 x1 y1 n2 x2 y2 q).2.2.1], .int .i64 (runR z n1 x1 y1 n2 x2 y2 q).2.2.2]) ∧ Below w.heap.size w w' := by
  have hlong : ∀ l1 l2 l3 l4 : Bool, decide (140 < x1.size) = l1 → decide (140 < y1.size) = l2 → decide (140 < x2.size) = l3 → decide (140 < y2.size) = l4 → (Sp.long x1 y1 || Sp.long x2 y2) = (l1 || l2 || (l3 || l4)) := by
    intro l1 l2 l3 l4 h1 h2 h3 h4
    unfold Sp.long
    rw [h1, h2, h3, h4]
  unfold runR
  cases hv1 : Sp.vld n1 x1 y1
  · exact run_inv1 g n1 n2 x1 y1 x2 y2 w hTab z hv1
  cases hv2 : Sp.vld n2 x2 y2
  · exact run_inv2 g n1 n2 x1 y1 x2 y2 w hTab z hv1 hv2
  have hz48 := zero48 (vld_parts hv2).1
  rw [if_neg (by simp)]
  cases z
  · rw [if_neg (by simp)]
    by_cases l0 : 140 < x1.size
    · rw [if_pos (by rw [hlong true _ _ _ (decide_eq_true l0) rfl rfl rfl]; simp)]
      exact run_long_false0 g n1 n2 x1 y1 x2 y2 w hTab hv1 hv2 l0
    by_cases l1 : 140 < y1.size
    · rw [if_pos (by rw [hlong _ true _ _ rfl (decide_eq_true l1) rfl rfl]; simp)]
      exact run_long_false1 g n1 n2 x1 y1 x2 y2 w hTab hv1 hv2 l0 l1
    by_cases l2 : 140 < x2.size
    · rw [if_pos (by rw [hlong _ _ true _ rfl rfl (decide_eq_true l2) rfl]; simp)]
      exact run_long_false2 g n1 n2 x1 y1 x2 y2 w hTab hv1 hv2 l0 l1 l2
    by_cases l3 : 140 < y2.size
    · rw [if_pos (by rw [hlong _ _ _ true rfl rfl rfl (decide_eq_true l3)]; simp)]
      exact run_long_false3 g n1 n2 x1 y1 x2 y2 w hTab hv1 hv2 l0 l1 l2 l3
    rw [if_neg (by rw [hlong _ _ _ _ (decide_eq_false l0) (decide_eq_false l1) (decide_eq_false l2) (decide_eq_false l3)]; simp)]
    exact run_go_false g n1 n2 x1 y1 x2 y2 w hTab _ _ _ _ eg (hop hv1 hv2 (by simp) (by omega) (by omega) (by omega) (by omega)) hv1 hv2 l0 l1 l2 l3
  · by_cases hz : Sp.nval x2 = 0
    · rw [if_pos (by simp [hz])]
      exact run_zero g n1 n2 x1 y1 x2 y2 w hTab hv1 hv2 (hz48.2 hz)
    have hz' : ¬ x2.toList = [48] := fun h => hz (hz48.1 h)
    rw [if_neg (by simp [hz])]
    by_cases l0 : 140 < x1.size
    · rw [if_pos (by rw [hlong true _ _ _ (decide_eq_true l0) rfl rfl rfl]; simp)]
      exact run_long_true0 g n1 n2 x1 y1 x2 y2 w hTab hv1 hv2 hz' l0
    by_cases l1 : 140 < y1.size
    · rw [if_pos (by rw [hlong _ true _ _ rfl (decide_eq_true l1) rfl rfl]; simp)]
      exact run_long_true1 g n1 n2 x1 y1 x2 y2 w hTab hv1 hv2 hz' l0 l1
    by_cases l2 : 140 < x2.size
    · rw [if_pos (by rw [hlong _ _ true _ rfl rfl (decide_eq_true l2) rfl]; simp)]
      exact run_long_true2 g n1 n2 x1 y1 x2 y2 w hTab hv1 hv2 hz' l0 l1 l2
    by_cases l3 : 140 < y2.size
    · rw [if_pos (by rw [hlong _ _ _ true rfl rfl rfl (decide_eq_true l3)]; simp)]
      exact run_long_true3 g n1 n2 x1 y1 x2 y2 w hTab hv1 hv2 hz' l0 l1 l2 l3
    rw [if_neg (by rw [hlong _ _ _ _ (decide_eq_false l0) (decide_eq_false l1) (decide_eq_false l2) (decide_eq_false l3)]; simp)]
    exact run_go_true g n1 n2 x1 y1 x2 y2 w hTab _ _ _ _ eg (hop hv1 hv2 (fun _ => hz) (by omega) (by omega) (by omega) (by omega)) hv1 hv2 hz' l0 l1 l2 l3
theorem nval140 {x : ByteArray} (h : Sp.isNat x = true) (hl : x.size ≤ 140) : Sp.nval x < 10 ^ 140 := by
  rw [← dec_nval h] at hl
  exact (dec_size_iff (k := 139)).1 hl
theorem rval_sg (n : Bool) (x y : ByteArray) : Sp.rval n x y = mkRat (sg n (Sp.nval x)) (Sp.nval y) := rfl
theorem sum_val (n1 n2 : Bool) (x y d : Nat) : (sg n1 x + sg n2 y : Int) = if n1 = n2 then sg n1 (x + y) else if x < y then sg n2 (y - x) else sg n1 (x - y) := by
  unfold sg
  cases n1 <;> cases n2 <;> simp <;> (try split) <;> omega
theorem sum_all (n1 n2 : Bool) (x1 y1 x2 y2 : Nat) (w : World) (hTab : Tab w) (h1 : x1 < 10 ^ 140) (h2 : y1 < 10 ^ 140) (h3 : x2 < 10 ^ 140) (h4 : y2 < 10 ^ 140) (h5 : y1 ≠ 0) (h6 : y2 ≠ 0) (q : Rat) (hq : q = mkRat (sg n1 x1) y1 + mkRat (sg n2 x2) y2) :
    Calls Tryz.prog 43 #[.agg #[.bool n1, .string (Sp.dec x1), .string (Sp.dec y1)], .agg #[.bool n2, .string (Sp.dec x2), .string (Sp.dec y2)]] w fun e w' => e = .returned (.tuple #[.agg #[.bool (Sp.okR q).1, .string (Sp.okR q).2.1, .string (Sp.okR q).2.2.1], .int .i64 0]) ∧ Below w.heap.size w w' := by
  have hv : q = mkRat (sg n1 (x1 * y2) + sg n2 (x2 * y1)) (y1 * y2) := by
    rw [hq, Rat.mkRat_add_mkRat _ _ h5 h6]
    congr 1
    unfold sg
    cases n1 <;> cases n2 <;> simp [Int.natCast_mul, Int.neg_mul, Int.mul_neg]
  rw [sum_val n1 n2 (x1 * y2) (x2 * y1) 0] at hv
  by_cases hn : n1 = n2
  · rw [if_pos hn] at hv
    rw [hv]
    exact sum_same n1 n2 x1 y1 x2 y2 w hTab h1 h2 h3 h4 h5 h6 hn
  · rw [if_neg hn] at hv
    by_cases hlt : x1 * y2 < x2 * y1
    · rw [if_pos hlt] at hv
      rw [hv]
      exact sum_less n1 n2 x1 y1 x2 y2 w hTab h1 h2 h3 h4 h5 h6 hn hlt
    · rw [if_neg hlt] at hv
      rw [hv]
      exact sum_more n1 n2 x1 y1 x2 y2 w hTab h1 h2 h3 h4 h5 h6 hn hlt
theorem product_all (n1 n2 : Bool) (x1 y1 x2 y2 : Nat) (w : World) (hTab : Tab w) (h1 : x1 < 10 ^ 140) (h2 : y1 < 10 ^ 140) (h3 : x2 < 10 ^ 140) (h4 : y2 < 10 ^ 140) (h5 : y1 ≠ 0) (h6 : y2 ≠ 0) (q : Rat) (hq : q = mkRat (sg n1 x1) y1 * mkRat (sg n2 x2) y2) :
    Calls Tryz.prog 41 #[.agg #[.bool n1, .string (Sp.dec x1), .string (Sp.dec y1)], .agg #[.bool n2, .string (Sp.dec x2), .string (Sp.dec y2)]] w fun e w' => e = .returned (.tuple #[.agg #[.bool (Sp.okR q).1, .string (Sp.okR q).2.1, .string (Sp.okR q).2.2.1], .int .i64 0]) ∧ Below w.heap.size w w' := by
  have hv : q = mkRat (sg (n1 != n2) (x1 * x2)) (y1 * y2) := by
    rw [hq, Rat.mkRat_mul_mkRat]
    congr 1
    unfold sg
    cases n1 <;> cases n2 <;> simp [Int.natCast_mul, Int.neg_mul, Int.mul_neg]
  rw [hv]
  exact product_calls n1 n2 x1 y1 x2 y2 w hTab h1 h2 h3 h4 h5 h6
theorem runR_ratOp (z : Bool) (f : Rat → Rat → Rat) (n1 : Bool) (x1 y1 : ByteArray) (n2 : Bool) (x2 y2 : ByteArray) : runR z n1 x1 y1 n2 x2 y2 (f (Sp.rval n1 x1 y1) (Sp.rval n2 x2 y2)) = Sp.ratOp z f n1 x1 y1 n2 x2 y2 := rfl
theorem ratio_Add.calls (a0_0 : Bool) (a0_1 a0_2 : ByteArray) (a1_0 : Bool) (a1_1 a1_2 : ByteArray) (r1 : Bool) (r2 r3 : ByteArray) (r4 : Int) (w : World) (hTab : Tab w) (h : ratio_Add.f a0_0 a0_1 a0_2 a1_0 a1_1 a1_2 = some (r1, r2, r3, r4)) :
    Calls Tryz.prog 22 #[.agg #[.bool a0_0, .string a0_1, .string a0_2], .agg #[.bool a1_0, .string a1_1, .string a1_2]] w fun e w' => e = .returned (.tuple #[.agg #[.bool r1, .string r2, .string r3], .int .i64 r4]) ∧ Below w.heap.size w w' := by
  unfold ratio_Add.f at h
  have h := Option.some.inj h
  refine wrap_add a0_0 a1_0 a0_1 a0_2 a1_1 a1_2 r1 r2 r3 r4 w hTab fun W hW => ?_
  have := run_all false 43 (enters_of Tryz.func43 (by kernel_rfl) rfl) a0_0 a1_0 a0_1 a0_2 a1_1 a1_2 ((· + ·) (Sp.rval a0_0 a0_1 a0_2) (Sp.rval a1_0 a1_1 a1_2)) W hW (fun hv1 hv2 hz l0 l1 l2 l3 W2 hW2 => by
    obtain ⟨ia, ja, da, _, _⟩ := vld_parts hv1
    obtain ⟨ib, jb, db, _, sb⟩ := vld_parts hv2
    have e1 := nval140 ia l0
    have e2 := nval140 ja l1
    have e3 := nval140 ib l2
    have e4 := nval140 jb l3
    have := sum_all a0_0 a1_0 _ _ _ _ W2 hW2 e1 e2 e3 e4 da db (Sp.rval a0_0 a0_1 a0_2 + Sp.rval a1_0 a1_1 a1_2) rfl
    rw [dec_nval ia, dec_nval ja, dec_nval ib, dec_nval jb] at this
    exact this)
  rw [runR_ratOp, h] at this
  exact this
theorem ratio_Mul.calls (a0_0 : Bool) (a0_1 a0_2 : ByteArray) (a1_0 : Bool) (a1_1 a1_2 : ByteArray) (r1 : Bool) (r2 r3 : ByteArray) (r4 : Int) (w : World) (hTab : Tab w) (h : ratio_Mul.f a0_0 a0_1 a0_2 a1_0 a1_1 a1_2 = some (r1, r2, r3, r4)) :
    Calls Tryz.prog 21 #[.agg #[.bool a0_0, .string a0_1, .string a0_2], .agg #[.bool a1_0, .string a1_1, .string a1_2]] w fun e w' => e = .returned (.tuple #[.agg #[.bool r1, .string r2, .string r3], .int .i64 r4]) ∧ Below w.heap.size w w' := by
  unfold ratio_Mul.f at h
  have h := Option.some.inj h
  refine wrap_mul a0_0 a1_0 a0_1 a0_2 a1_1 a1_2 r1 r2 r3 r4 w hTab fun W hW => ?_
  have := run_all false 41 (enters_of Tryz.func41 (by kernel_rfl) rfl) a0_0 a1_0 a0_1 a0_2 a1_1 a1_2 ((· * ·) (Sp.rval a0_0 a0_1 a0_2) (Sp.rval a1_0 a1_1 a1_2)) W hW (fun hv1 hv2 hz l0 l1 l2 l3 W2 hW2 => by
    obtain ⟨ia, ja, da, _, _⟩ := vld_parts hv1
    obtain ⟨ib, jb, db, _, sb⟩ := vld_parts hv2
    have e1 := nval140 ia l0
    have e2 := nval140 ja l1
    have e3 := nval140 ib l2
    have e4 := nval140 jb l3
    have := product_all a0_0 a1_0 _ _ _ _ W2 hW2 e1 e2 e3 e4 da db (Sp.rval a0_0 a0_1 a0_2 * Sp.rval a1_0 a1_1 a1_2) rfl
    rw [dec_nval ia, dec_nval ja, dec_nval ib, dec_nval jb] at this
    exact this)
  rw [runR_ratOp, h] at this
  exact this
theorem div_q (n : Bool) (x y : Nat) (hy : y ≠ 0) (hx : x ≠ 0) : (mkRat (sg n x) y)⁻¹ = mkRat (sg n y) x := by
  rw [← Rat.divInt_ofNat, ← Rat.divInt_ofNat, Rat.inv_divInt]
  unfold sg
  cases n
  · rfl
  · simp only [if_true]
    rw [← Rat.neg_divInt_neg, Int.neg_neg]
theorem ratio_Div.calls (a0_0 : Bool) (a0_1 a0_2 : ByteArray) (a1_0 : Bool) (a1_1 a1_2 : ByteArray) (r1 : Bool) (r2 r3 : ByteArray) (r4 : Int) (w : World) (hTab : Tab w) (h : ratio_Div.f a0_0 a0_1 a0_2 a1_0 a1_1 a1_2 = some (r1, r2, r3, r4)) :
    Calls Tryz.prog 31 #[.agg #[.bool a0_0, .string a0_1, .string a0_2], .agg #[.bool a1_0, .string a1_1, .string a1_2]] w fun e w' => e = .returned (.tuple #[.agg #[.bool r1, .string r2, .string r3], .int .i64 r4]) ∧ Below w.heap.size w w' := by
  unfold ratio_Div.f at h
  have h := Option.some.inj h
  refine wrap_div a0_0 a1_0 a0_1 a0_2 a1_1 a1_2 r1 r2 r3 r4 w hTab fun W hW => ?_
  have := run_all true 46 (enters_of Tryz.func46 (by kernel_rfl) rfl) a0_0 a1_0 a0_1 a0_2 a1_1 a1_2 ((· / ·) (Sp.rval a0_0 a0_1 a0_2) (Sp.rval a1_0 a1_1 a1_2)) W hW (fun hv1 hv2 hz l0 l1 l2 l3 W2 hW2 => by
    obtain ⟨ia, ja, da, _, _⟩ := vld_parts hv1
    obtain ⟨ib, jb, db, _, sb⟩ := vld_parts hv2
    have e1 := nval140 ia l0
    have e2 := nval140 ja l1
    have e3 := nval140 ib l2
    have e4 := nval140 jb l3
    have hz' := hz rfl
    have hq : (Sp.rval a0_0 a0_1 a0_2 / Sp.rval a1_0 a1_1 a1_2) = mkRat (sg a0_0 (Sp.nval a0_1)) (Sp.nval a0_2) * mkRat (sg a1_0 (Sp.nval a1_2)) (Sp.nval a1_1) := by
      rw [Rat.div_def, rval_sg, rval_sg, div_q _ _ _ db hz']
    have := product_all a0_0 a1_0 _ _ _ _ W2 hW2 e1 e2 e4 e3 da hz' _ hq
    rw [dec_nval ia, dec_nval ja, dec_nval ib, dec_nval jb] at this
    refine wrap_div1 a0_0 a1_0 a0_1 a0_2 a1_1 a1_2 _ _ _ _ W2 hW2 fun W3 hW3 => ?_
    have := product_all a0_0 a1_0 _ _ _ _ W3 hW3 e1 e2 e4 e3 da hz' _ hq
    rw [dec_nval ia, dec_nval ja, dec_nval ib, dec_nval jb] at this
    exact this)
  rw [runR_ratOp, h] at this
  exact this
theorem ratio_Sub.calls (a0_0 : Bool) (a0_1 a0_2 : ByteArray) (a1_0 : Bool) (a1_1 a1_2 : ByteArray) (r1 : Bool) (r2 r3 : ByteArray) (r4 : Int) (w : World) (hTab : Tab w) (h : ratio_Sub.f a0_0 a0_1 a0_2 a1_0 a1_1 a1_2 = some (r1, r2, r3, r4)) :
    Calls Tryz.prog 33 #[.agg #[.bool a0_0, .string a0_1, .string a0_2], .agg #[.bool a1_0, .string a1_1, .string a1_2]] w fun e w' => e = .returned (.tuple #[.agg #[.bool r1, .string r2, .string r3], .int .i64 r4]) ∧ Below w.heap.size w w' := by
  unfold ratio_Sub.f at h
  have h := Option.some.inj h
  refine wrap_sub a0_0 a1_0 a0_1 a0_2 a1_1 a1_2 r1 r2 r3 r4 w hTab fun W hW => ?_
  have := run_all false 47 (enters_of Tryz.func47 (by kernel_rfl) rfl) a0_0 a1_0 a0_1 a0_2 a1_1 a1_2 ((· - ·) (Sp.rval a0_0 a0_1 a0_2) (Sp.rval a1_0 a1_1 a1_2)) W hW (fun hv1 hv2 hz l0 l1 l2 l3 W2 hW2 => by
    obtain ⟨ia, ja, da, _, _⟩ := vld_parts hv1
    obtain ⟨ib, jb, db, _, sb⟩ := vld_parts hv2
    have e1 := nval140 ia l0
    have e2 := nval140 ja l1
    have e3 := nval140 ib l2
    have e4 := nval140 jb l3
    obtain ⟨m2, hm⟩ : ∃ m2, (if a1_0 = true then false else (a1_1.toList != [48])) = m2 := ⟨_, rfl⟩
    have ho : ratio_opposite.f a1_0 a1_1 a1_2 = some (m2, a1_1, a1_2) := by
      rw [← hm]
      unfold ratio_opposite.f
      split <;> rfl
    have hsg : -sg a1_0 (Sp.nval a1_1) = sg m2 (Sp.nval a1_1) := by
      rw [← hm]
      cases a1_0
      · simp only [Bool.false_eq_true, if_false]
        by_cases h0 : Sp.nval a1_1 = 0
        · rw [h0]; unfold sg; split <;> simp
        · have : (a1_1.toList != [48]) = true := bne_iff_ne.2 (fun h => h0 ((zero48 ib).1 h))
          rw [this]
          rfl
      · simp only [if_true]
        unfold sg
        simp
    have hq : (Sp.rval a0_0 a0_1 a0_2 - Sp.rval a1_0 a1_1 a1_2) = mkRat (sg a0_0 (Sp.nval a0_1)) (Sp.nval a0_2) + mkRat (sg m2 (Sp.nval a1_1)) (Sp.nval a1_2) := by
      rw [Rat.sub_eq_add_neg, rval_sg, rval_sg, Rat.neg_mkRat, hsg]
    refine wrap_sub1 a0_0 a1_0 m2 a0_1 a0_2 a1_1 a1_2 _ _ _ _ W2 hW2 ho fun W3 hW3 => ?_
    have := sum_all a0_0 m2 _ _ _ _ W3 hW3 e1 e2 e3 e4 da db _ hq
    rw [dec_nval ia, dec_nval ja, dec_nval ib, dec_nval jb] at this
    exact this)
  rw [runR_ratOp, h] at this
  exact this
theorem of_val (a b : Int) (hb : b ≠ 0) : mkRat (sg (decide (a < 0) != decide (b < 0)) a.natAbs) b.natAbs = (a : Rat) / b := by
  rw [← Rat.divInt_eq_div, ← Rat.divInt_ofNat]
  by_cases h : b < 0
  · rw [← Rat.neg_divInt_neg a b, show ((b.natAbs : Nat) : Int) = -b by omega]
    congr 1
    unfold sg
    by_cases ha : a < 0
    · rw [decide_eq_true ha, decide_eq_true h]; simp; omega
    · rw [decide_eq_false ha, decide_eq_true h]; simp; omega
  · rw [show ((b.natAbs : Nat) : Int) = b by omega]
    congr 1
    unfold sg
    by_cases ha : a < 0
    · rw [decide_eq_true ha, decide_eq_false h]; simp; omega
    · rw [decide_eq_false ha, decide_eq_false h]; simp; omega
theorem ratio_Of.calls (a0 a1 : Int) (r1 : Bool) (r2 r3 : ByteArray) (r4 : Int) (w : World) (hTab : Tab w) (h : ratio_Of.f a0 a1 = some (r1, r2, r3, r4)) :
    Calls Tryz.prog 38 #[.int .i64 a0, .int .i64 a1] w fun e w' => e = .returned (.tuple #[.agg #[.bool r1, .string r2, .string r3], .int .i64 r4]) ∧ Below w.heap.size w w' := by
  unfold ratio_Of.f at h
  split at h
  · rename_i hr
    have h := Option.some.inj h
    by_cases hb : a1 = 0
    · subst hb
      rw [if_pos rfl] at h
      cases h
      exact of_zero a0 w
    · rw [if_neg hb, ← of_val a0 a1 hb] at h
      have := of_some a0 a1 hr.1.1 hr.1.2 hr.2.1 hr.2.2 hb w hTab
      generalize mkRat (sg (decide (a0 < 0) != decide (a1 < 0)) a0.natAbs) a1.natAbs = q at this h
      cases h
      exact this
  · cases h
end Go.Proofs.YtmkanjcehhbmlaaGreatDoor.Pr
end
