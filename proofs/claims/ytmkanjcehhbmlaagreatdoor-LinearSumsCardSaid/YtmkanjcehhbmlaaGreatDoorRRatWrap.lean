/- ratio.Add, Sub, Mul, Div over run; Sub's and Div's closures. (Written by gen_wrap.py.) -/
import Derived.Test.YtmkanjcehhbmlaaGreatDoorRBuild
import Derived.Test.YtmkanjcehhbmlaaGreatDoorRFmt
import Derived.Test.YtmkanjcehhbmlaaGreatDoorRGN
import Derived.Test.YtmkanjcehhbmlaaGreatDoorRGN2
import Derived.Test.YtmkanjcehhbmlaaGreatDoorRGN3
import Derived.Test.YtmkanjcehhbmlaaGreatDoorRGW
import Derived.Test.YtmkanjcehhbmlaaGreatDoorRGW2
import Derived.Test.YtmkanjcehhbmlaaGreatDoorRNatApply
import Derived.Test.YtmkanjcehhbmlaaGreatDoorRNatS
import Derived.Test.YtmkanjcehhbmlaaGreatDoorRNum
import Derived.Test.YtmkanjcehhbmlaaGreatDoorRNumAdd
import Derived.Test.YtmkanjcehhbmlaaGreatDoorRNumCmp
import Derived.Test.YtmkanjcehhbmlaaGreatDoorRNumDiv
import Derived.Test.YtmkanjcehhbmlaaGreatDoorRNumIs
import Derived.Test.YtmkanjcehhbmlaaGreatDoorRNumMul
import Derived.Test.YtmkanjcehhbmlaaGreatDoorRNumOps
import Derived.Test.YtmkanjcehhbmlaaGreatDoorRNumParse
import Derived.Test.YtmkanjcehhbmlaaGreatDoorRNumText
import Derived.Test.YtmkanjcehhbmlaaGreatDoorRNumVal
import Derived.Test.YtmkanjcehhbmlaaGreatDoorRPrA1
import Derived.Test.YtmkanjcehhbmlaaGreatDoorRPrA11
import Derived.Test.YtmkanjcehhbmlaaGreatDoorRPrA4
import Derived.Test.YtmkanjcehhbmlaaGreatDoorRPrA5
import Derived.Test.YtmkanjcehhbmlaaGreatDoorRPrB1
import Derived.Test.YtmkanjcehhbmlaaGreatDoorRPrB2
import Derived.Test.YtmkanjcehhbmlaaGreatDoorRRatOps
import Derived.Test.YtmkanjcehhbmlaaGreatDoorRRatProd
import Derived.Test.YtmkanjcehhbmlaaGreatDoorRRatVal
import Derived.Test.YtmkanjcehhbmlaaGreatDoorRShelf
import Derived.Test.YtmkanjcehhbmlaaGreatDoorRSpec
import Derived.Test.YtmkanjcehhbmlaaGreatDoorRTab
import Derived.Test.YtmkanjcehhbmlaaGreatDoorRWLast
set_option linter.all false
section
namespace Go.Proofs.YtmkanjcehhbmlaaGreatDoor.Pr
set_option linter.unusedSimpArgs false
set_option linter.unusedVariables false
open Go.RowKit Go.Shelf Go.Proofs.YtmkanjcehhbmlaaGreatDoorW.PrintWords Go.Proofs.YtmkanjcehhbmlaaGreatDoorW.PrintLast Go.Proofs.YtmkanjcehhbmlaaGreatDoorW.PrintMore
theorem three (w : World) (o0 o1 o2 : Obj) (W : World) (hW : W = ((w.alloc o0).alloc o1).alloc o2) :
    W.heap[w.heap.size]? = some o0 ∧ W.heap[w.heap.size + 1]? = some o1 ∧ W.heap[w.heap.size + 2]? = some o2 ∧ Below w.heap.size w W := by
  subst hW
  refine ⟨?_, ?_, ?_, ((((Below.refl _ w).alloc (Nat.le_refl _) _).alloc (by simp) _).alloc (by simp; omega) _)⟩
  all_goals simp only [alloc_heap, World.size_alloc]
  all_goals (repeat' split)
  all_goals first | rfl | (exfalso; omega) | (exfalso; exact ‹¬True› trivial)
set_option maxRecDepth 100000 in
set_option maxHeartbeats 2000000 in
theorem wrap_add (n1 n2 : Bool) (x1 y1 x2 y2 : ByteArray) (q0 : Bool) (q1 q2 : ByteArray) (q3 : Int) (w : World) (hTab : Tab w)
    (hc : ∀ W, Tab W → Calls Tryz.prog 42 #[.agg #[.bool false, .func (.func 43) #[] #[]], .agg #[.bool n1, .string x1, .string y1], .agg #[.bool n2, .string x2, .string y2]] W fun e w' => e = .returned (.tuple #[.agg #[.bool q0, .string q1, .string q2], .int .i64 q3]) ∧ Below W.heap.size W w') :
    Calls Tryz.prog 22 #[.agg #[.bool n1, .string x1, .string y1], .agg #[.bool n2, .string x2, .string y2]] w fun e w' => e = .returned (.tuple #[.agg #[.bool q0, .string q1, .string q2], .int .i64 q3]) ∧ Below w.heap.size w w' := by
  have hp : ∀ W : World, W = ((w.alloc (.cells #[.bool n1, .string x1, .string y1] 31)).alloc (.cells #[.bool n2, .string x2, .string y2] 31)).alloc (.cells #[.bool false, .string ⟨#[]⟩, .string ⟨#[]⟩] 31) →
      Calls Tryz.prog 42 #[.agg #[.bool false, .func (.func 43) #[] #[]], .agg #[.bool n1, .string x1, .string y1], .agg #[.bool n2, .string x2, .string y2]] W fun e w' => e = .returned (.tuple #[.agg #[.bool q0, .string q1, .string q2], .int .i64 q3]) ∧ w'.heap[w.heap.size + 2]? = some (.cells #[.bool false, .string ⟨#[]⟩, .string ⟨#[]⟩] 31 (0, 0)) ∧ Below w.heap.size w w' := fun W hW => by
    obtain ⟨g0, g1, g2, hb⟩ := three w _ _ _ W hW
    refine (hc W (hTab.below hb)).mono ?_
    rintro e w' ⟨rfl, hb2⟩
    exact ⟨rfl, (hb2.block _ (Array.getElem?_eq_some_iff.1 g2).1).trans g2, hb.trans (hb2.mono hb.size)⟩
  have HP := Lib.hid hp
  clear hp hc hTab
  go_enter Tryz.func22, Tryz.ntmps22
  go_wp2_with (go_at_call 42; refine (HP.out _ rfl).mono ?_; rintro e w1 ⟨rfl, g2, hb⟩; obtain ⟨k0, k1, k2, f0, f1, f2⟩ := box3 g2; have G2 := Lib.hid g2; have HB := Lib.hid hb; clear g2 hb)
  refine bodyPost_ret (results_ct rfl _ _ (w.heap.size + 2) 31 _ (0, 0) _ rfl (set3 G2.out _ _ _) Tryz.underlying31 rfl (by kernel_rfl)) rfl ?_
  exact ⟨rfl, ((HB.out.setCell (p := ⟨w.heap.size + 2, 0, none⟩) (by show _ ≤ w.heap.size + 2; omega) _).setCell (p := ⟨w.heap.size + 2, 1, none⟩) (by show _ ≤ w.heap.size + 2; omega) _).setCell (p := ⟨w.heap.size + 2, 2, none⟩) (by show _ ≤ w.heap.size + 2; omega) _⟩
set_option maxRecDepth 100000 in
set_option maxHeartbeats 2000000 in
theorem wrap_mul (n1 n2 : Bool) (x1 y1 x2 y2 : ByteArray) (q0 : Bool) (q1 q2 : ByteArray) (q3 : Int) (w : World) (hTab : Tab w)
    (hc : ∀ W, Tab W → Calls Tryz.prog 42 #[.agg #[.bool false, .func (.func 41) #[] #[]], .agg #[.bool n1, .string x1, .string y1], .agg #[.bool n2, .string x2, .string y2]] W fun e w' => e = .returned (.tuple #[.agg #[.bool q0, .string q1, .string q2], .int .i64 q3]) ∧ Below W.heap.size W w') :
    Calls Tryz.prog 21 #[.agg #[.bool n1, .string x1, .string y1], .agg #[.bool n2, .string x2, .string y2]] w fun e w' => e = .returned (.tuple #[.agg #[.bool q0, .string q1, .string q2], .int .i64 q3]) ∧ Below w.heap.size w w' := by
  have hp : ∀ W : World, W = ((w.alloc (.cells #[.bool n1, .string x1, .string y1] 31)).alloc (.cells #[.bool n2, .string x2, .string y2] 31)).alloc (.cells #[.bool false, .string ⟨#[]⟩, .string ⟨#[]⟩] 31) →
      Calls Tryz.prog 42 #[.agg #[.bool false, .func (.func 41) #[] #[]], .agg #[.bool n1, .string x1, .string y1], .agg #[.bool n2, .string x2, .string y2]] W fun e w' => e = .returned (.tuple #[.agg #[.bool q0, .string q1, .string q2], .int .i64 q3]) ∧ w'.heap[w.heap.size + 2]? = some (.cells #[.bool false, .string ⟨#[]⟩, .string ⟨#[]⟩] 31 (0, 0)) ∧ Below w.heap.size w w' := fun W hW => by
    obtain ⟨g0, g1, g2, hb⟩ := three w _ _ _ W hW
    refine (hc W (hTab.below hb)).mono ?_
    rintro e w' ⟨rfl, hb2⟩
    exact ⟨rfl, (hb2.block _ (Array.getElem?_eq_some_iff.1 g2).1).trans g2, hb.trans (hb2.mono hb.size)⟩
  have HP := Lib.hid hp
  clear hp hc hTab
  go_enter Tryz.func21, Tryz.ntmps21
  go_wp2_with (go_at_call 42; refine (HP.out _ rfl).mono ?_; rintro e w1 ⟨rfl, g2, hb⟩; obtain ⟨k0, k1, k2, f0, f1, f2⟩ := box3 g2; have G2 := Lib.hid g2; have HB := Lib.hid hb; clear g2 hb)
  refine bodyPost_ret (results_ct rfl _ _ (w.heap.size + 2) 31 _ (0, 0) _ rfl (set3 G2.out _ _ _) Tryz.underlying31 rfl (by kernel_rfl)) rfl ?_
  exact ⟨rfl, ((HB.out.setCell (p := ⟨w.heap.size + 2, 0, none⟩) (by show _ ≤ w.heap.size + 2; omega) _).setCell (p := ⟨w.heap.size + 2, 1, none⟩) (by show _ ≤ w.heap.size + 2; omega) _).setCell (p := ⟨w.heap.size + 2, 2, none⟩) (by show _ ≤ w.heap.size + 2; omega) _⟩
set_option maxRecDepth 100000 in
set_option maxHeartbeats 2000000 in
theorem wrap_sub (n1 n2 : Bool) (x1 y1 x2 y2 : ByteArray) (q0 : Bool) (q1 q2 : ByteArray) (q3 : Int) (w : World) (hTab : Tab w)
    (hc : ∀ W, Tab W → Calls Tryz.prog 42 #[.agg #[.bool false, .func (.func 47) #[] #[]], .agg #[.bool n1, .string x1, .string y1], .agg #[.bool n2, .string x2, .string y2]] W fun e w' => e = .returned (.tuple #[.agg #[.bool q0, .string q1, .string q2], .int .i64 q3]) ∧ Below W.heap.size W w') :
    Calls Tryz.prog 33 #[.agg #[.bool n1, .string x1, .string y1], .agg #[.bool n2, .string x2, .string y2]] w fun e w' => e = .returned (.tuple #[.agg #[.bool q0, .string q1, .string q2], .int .i64 q3]) ∧ Below w.heap.size w w' := by
  have hp : ∀ W : World, W = ((w.alloc (.cells #[.bool n1, .string x1, .string y1] 31)).alloc (.cells #[.bool n2, .string x2, .string y2] 31)).alloc (.cells #[.bool false, .string ⟨#[]⟩, .string ⟨#[]⟩] 31) →
      Calls Tryz.prog 42 #[.agg #[.bool false, .func (.func 47) #[] #[]], .agg #[.bool n1, .string x1, .string y1], .agg #[.bool n2, .string x2, .string y2]] W fun e w' => e = .returned (.tuple #[.agg #[.bool q0, .string q1, .string q2], .int .i64 q3]) ∧ w'.heap[w.heap.size + 2]? = some (.cells #[.bool false, .string ⟨#[]⟩, .string ⟨#[]⟩] 31 (0, 0)) ∧ Below w.heap.size w w' := fun W hW => by
    obtain ⟨g0, g1, g2, hb⟩ := three w _ _ _ W hW
    refine (hc W (hTab.below hb)).mono ?_
    rintro e w' ⟨rfl, hb2⟩
    exact ⟨rfl, (hb2.block _ (Array.getElem?_eq_some_iff.1 g2).1).trans g2, hb.trans (hb2.mono hb.size)⟩
  have HP := Lib.hid hp
  clear hp hc hTab
  go_enter Tryz.func33, Tryz.ntmps33
  go_wp2_with (go_at_call 42; refine (HP.out _ rfl).mono ?_; rintro e w1 ⟨rfl, g2, hb⟩; obtain ⟨k0, k1, k2, f0, f1, f2⟩ := box3 g2; have G2 := Lib.hid g2; have HB := Lib.hid hb; clear g2 hb)
  refine bodyPost_ret (results_ct rfl _ _ (w.heap.size + 2) 31 _ (0, 0) _ rfl (set3 G2.out _ _ _) Tryz.underlying31 rfl (by kernel_rfl)) rfl ?_
  exact ⟨rfl, ((HB.out.setCell (p := ⟨w.heap.size + 2, 0, none⟩) (by show _ ≤ w.heap.size + 2; omega) _).setCell (p := ⟨w.heap.size + 2, 1, none⟩) (by show _ ≤ w.heap.size + 2; omega) _).setCell (p := ⟨w.heap.size + 2, 2, none⟩) (by show _ ≤ w.heap.size + 2; omega) _⟩
set_option maxRecDepth 100000 in
set_option maxHeartbeats 2000000 in
theorem wrap_div (n1 n2 : Bool) (x1 y1 x2 y2 : ByteArray) (q0 : Bool) (q1 q2 : ByteArray) (q3 : Int) (w : World) (hTab : Tab w)
    (hc : ∀ W, Tab W → Calls Tryz.prog 42 #[.agg #[.bool true, .func (.func 46) #[] #[]], .agg #[.bool n1, .string x1, .string y1], .agg #[.bool n2, .string x2, .string y2]] W fun e w' => e = .returned (.tuple #[.agg #[.bool q0, .string q1, .string q2], .int .i64 q3]) ∧ Below W.heap.size W w') :
    Calls Tryz.prog 31 #[.agg #[.bool n1, .string x1, .string y1], .agg #[.bool n2, .string x2, .string y2]] w fun e w' => e = .returned (.tuple #[.agg #[.bool q0, .string q1, .string q2], .int .i64 q3]) ∧ Below w.heap.size w w' := by
  have hp : ∀ W : World, W = ((w.alloc (.cells #[.bool n1, .string x1, .string y1] 31)).alloc (.cells #[.bool n2, .string x2, .string y2] 31)).alloc (.cells #[.bool false, .string ⟨#[]⟩, .string ⟨#[]⟩] 31) →
      Calls Tryz.prog 42 #[.agg #[.bool true, .func (.func 46) #[] #[]], .agg #[.bool n1, .string x1, .string y1], .agg #[.bool n2, .string x2, .string y2]] W fun e w' => e = .returned (.tuple #[.agg #[.bool q0, .string q1, .string q2], .int .i64 q3]) ∧ w'.heap[w.heap.size + 2]? = some (.cells #[.bool false, .string ⟨#[]⟩, .string ⟨#[]⟩] 31 (0, 0)) ∧ Below w.heap.size w w' := fun W hW => by
    obtain ⟨g0, g1, g2, hb⟩ := three w _ _ _ W hW
    refine (hc W (hTab.below hb)).mono ?_
    rintro e w' ⟨rfl, hb2⟩
    exact ⟨rfl, (hb2.block _ (Array.getElem?_eq_some_iff.1 g2).1).trans g2, hb.trans (hb2.mono hb.size)⟩
  have HP := Lib.hid hp
  clear hp hc hTab
  go_enter Tryz.func31, Tryz.ntmps31
  go_wp2_with (go_at_call 42; refine (HP.out _ rfl).mono ?_; rintro e w1 ⟨rfl, g2, hb⟩; obtain ⟨k0, k1, k2, f0, f1, f2⟩ := box3 g2; have G2 := Lib.hid g2; have HB := Lib.hid hb; clear g2 hb)
  refine bodyPost_ret (results_ct rfl _ _ (w.heap.size + 2) 31 _ (0, 0) _ rfl (set3 G2.out _ _ _) Tryz.underlying31 rfl (by kernel_rfl)) rfl ?_
  exact ⟨rfl, ((HB.out.setCell (p := ⟨w.heap.size + 2, 0, none⟩) (by show _ ≤ w.heap.size + 2; omega) _).setCell (p := ⟨w.heap.size + 2, 1, none⟩) (by show _ ≤ w.heap.size + 2; omega) _).setCell (p := ⟨w.heap.size + 2, 2, none⟩) (by show _ ≤ w.heap.size + 2; omega) _⟩
set_option maxRecDepth 100000 in
set_option maxHeartbeats 2000000 in
theorem wrap_div1 (n1 n2 : Bool) (x1 y1 x2 y2 : ByteArray) (q0 : Bool) (q1 q2 : ByteArray) (q3 : Int) (w : World) (hTab : Tab w)
    (hc : ∀ W, Tab W → Calls Tryz.prog 41 #[.agg #[.bool n1, .string x1, .string y1], .agg #[.bool n2, .string y2, .string x2]] W fun e w' => e = .returned (.tuple #[.agg #[.bool q0, .string q1, .string q2], .int .i64 q3]) ∧ Below W.heap.size W w') :
    Calls Tryz.prog 46 #[.agg #[.bool n1, .string x1, .string y1], .agg #[.bool n2, .string x2, .string y2]] w fun e w' => e = .returned (.tuple #[.agg #[.bool q0, .string q1, .string q2], .int .i64 q3]) ∧ Below w.heap.size w w' := by
  have hp : ∀ W : World, W = ((w.alloc (.cells #[.bool n1, .string x1, .string y1] 31)).alloc (.cells #[.bool n2, .string x2, .string y2] 31)).alloc (.cells #[.bool false, .string ⟨#[]⟩, .string ⟨#[]⟩] 31) →
      Calls Tryz.prog 41 #[.agg #[.bool n1, .string x1, .string y1], .agg #[.bool n2, .string y2, .string x2]] W fun e w' => e = .returned (.tuple #[.agg #[.bool q0, .string q1, .string q2], .int .i64 q3]) ∧ w'.heap[w.heap.size + 2]? = some (.cells #[.bool false, .string ⟨#[]⟩, .string ⟨#[]⟩] 31 (0, 0)) ∧ Below w.heap.size w w' := fun W hW => by
    obtain ⟨g0, g1, g2, hb⟩ := three w _ _ _ W hW
    refine (hc W (hTab.below hb)).mono ?_
    rintro e w' ⟨rfl, hb2⟩
    exact ⟨rfl, (hb2.block _ (Array.getElem?_eq_some_iff.1 g2).1).trans g2, hb.trans (hb2.mono hb.size)⟩
  have HP := Lib.hid hp
  clear hp hc hTab
  go_enter Tryz.func46, Tryz.ntmps46
  go_wp2_with (go_at_call 41; refine (HP.out _ rfl).mono ?_; rintro e w1 ⟨rfl, g2, hb⟩; obtain ⟨k0, k1, k2, f0, f1, f2⟩ := box3 g2; have G2 := Lib.hid g2; have HB := Lib.hid hb; clear g2 hb)
  refine bodyPost_ret (results_ct rfl _ _ (w.heap.size + 2) 31 _ (0, 0) _ rfl (set3 G2.out _ _ _) Tryz.underlying31 rfl (by kernel_rfl)) rfl ?_
  exact ⟨rfl, ((HB.out.setCell (p := ⟨w.heap.size + 2, 0, none⟩) (by show _ ≤ w.heap.size + 2; omega) _).setCell (p := ⟨w.heap.size + 2, 1, none⟩) (by show _ ≤ w.heap.size + 2; omega) _).setCell (p := ⟨w.heap.size + 2, 2, none⟩) (by show _ ≤ w.heap.size + 2; omega) _⟩
end Go.Proofs.YtmkanjcehhbmlaaGreatDoor.Pr
end
