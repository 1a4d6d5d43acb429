/- The contract of ratio.operation.run. (Written by gen_run.py.) The contract of ratio.operation.run, further ways. (Written by gen_run.py.) The contract of ratio.operation.run, further ways. (Written by gen_run.py.) The contract of ratio.operation.run, further ways. (Written by gen_run.py.) The contract of ratio.operation.run, further ways. (Written by gen_run.py.) -/
import Derived.Test.YtmkanjcehhbmlaaGreatDoorDBuild
import Derived.Test.YtmkanjcehhbmlaaGreatDoorDFmt
import Derived.Test.YtmkanjcehhbmlaaGreatDoorDGN
import Derived.Test.YtmkanjcehhbmlaaGreatDoorDGN2
import Derived.Test.YtmkanjcehhbmlaaGreatDoorDGN3
import Derived.Test.YtmkanjcehhbmlaaGreatDoorDGW
import Derived.Test.YtmkanjcehhbmlaaGreatDoorDGW2
import Derived.Test.YtmkanjcehhbmlaaGreatDoorDNatApply
import Derived.Test.YtmkanjcehhbmlaaGreatDoorDNatS
import Derived.Test.YtmkanjcehhbmlaaGreatDoorDNum
import Derived.Test.YtmkanjcehhbmlaaGreatDoorDNumAdd
import Derived.Test.YtmkanjcehhbmlaaGreatDoorDNumCmp
import Derived.Test.YtmkanjcehhbmlaaGreatDoorDNumDiv
import Derived.Test.YtmkanjcehhbmlaaGreatDoorDNumIs
import Derived.Test.YtmkanjcehhbmlaaGreatDoorDNumMul
import Derived.Test.YtmkanjcehhbmlaaGreatDoorDNumOps
import Derived.Test.YtmkanjcehhbmlaaGreatDoorDNumParse
import Derived.Test.YtmkanjcehhbmlaaGreatDoorDNumText
import Derived.Test.YtmkanjcehhbmlaaGreatDoorDNumVal
import Derived.Test.YtmkanjcehhbmlaaGreatDoorDPrA1
import Derived.Test.YtmkanjcehhbmlaaGreatDoorDPrA11
import Derived.Test.YtmkanjcehhbmlaaGreatDoorDPrA4
import Derived.Test.YtmkanjcehhbmlaaGreatDoorDPrA5
import Derived.Test.YtmkanjcehhbmlaaGreatDoorDPrB1
import Derived.Test.YtmkanjcehhbmlaaGreatDoorDPrB2
import Derived.Test.YtmkanjcehhbmlaaGreatDoorDRatOps
import Derived.Test.YtmkanjcehhbmlaaGreatDoorDRatProd
import Derived.Test.YtmkanjcehhbmlaaGreatDoorDRatSum
import Derived.Test.YtmkanjcehhbmlaaGreatDoorDRatVal
import Derived.Test.YtmkanjcehhbmlaaGreatDoorDShelf
import Derived.Test.YtmkanjcehhbmlaaGreatDoorDSpec
import Derived.Test.YtmkanjcehhbmlaaGreatDoorDTab
import Derived.Test.YtmkanjcehhbmlaaGreatDoorDWLast
set_option linter.all false
section
namespace Go.Proofs.YtmkanjcehhbmlaaGreatDoor.Pr
set_option linter.unusedSimpArgs false
set_option linter.unusedVariables false
set_option exponentiation.threshold 400
open Go.RowKit Go.Shelf Go.Proofs.YtmkanjcehhbmlaaGreatDoorW.PrintWords Go.Proofs.YtmkanjcehhbmlaaGreatDoorW.PrintLast Go.Proofs.YtmkanjcehhbmlaaGreatDoorW.PrintMore
/-- The four boxes of run. -/
structure RB (N : Nat) (z : Bool) (g : Nat) (n1 n2 : Bool) (x1 y1 x2 y2 : ByteArray) (W : World) : Prop where
  o : W.heap[N]? = some (.cells #[.bool z, .func (.func g) #[] #[]] 53 (0, 0))
  a : W.heap[N + 1]? = some (.cells #[.bool n1, .string x1, .string y1] 31 (0, 0))
  b : W.heap[N + 2]? = some (.cells #[.bool n2, .string x2, .string y2] 31 (0, 0))
  r : W.heap[N + 3]? = some (.cells #[.bool false, .string ⟨#[]⟩, .string ⟨#[]⟩] 31 (0, 0))
theorem RB.below {N : Nat} {z : Bool} {g : Nat} {n1 n2 : Bool} {x1 y1 x2 y2 : ByteArray} {W W' : World} (h : RB N z g n1 n2 x1 y1 x2 y2 W) (hb : Below W.heap.size W W') : RB N z g n1 n2 x1 y1 x2 y2 W' :=
  ⟨(hb.block _ (Array.getElem?_eq_some_iff.1 h.o).1).trans h.o, (hb.block _ (Array.getElem?_eq_some_iff.1 h.a).1).trans h.a, (hb.block _ (Array.getElem?_eq_some_iff.1 h.b).1).trans h.b, (hb.block _ (Array.getElem?_eq_some_iff.1 h.r).1).trans h.r⟩
theorem RB.op {N : Nat} {z : Bool} {g : Nat} {n1 n2 : Bool} {x1 y1 x2 y2 : ByteArray} {W : World} (h : RB N z g n1 n2 x1 y1 x2 y2 W) : W.cell? ⟨N, 0, none⟩ = some (.bool z) ∧ W.cell? ⟨N, 1, none⟩ = some (.func (.func g) #[] #[]) := by
  constructor <;> simp [World.cell?, h.o]
theorem run_boxes (w : World) (z : Bool) (g : Nat) (n1 n2 : Bool) (x1 y1 x2 y2 : ByteArray) (W : World) (hW : W = (((w.alloc (.cells #[.bool z, .func (.func g) #[] #[]] 53)).alloc (.cells #[.bool n1, .string x1, .string y1] 31)).alloc (.cells #[.bool n2, .string x2, .string y2] 31)).alloc (.cells #[.bool false, .string ⟨#[]⟩, .string ⟨#[]⟩] 31)) :
    RB w.heap.size z g n1 n2 x1 y1 x2 y2 W ∧ Below w.heap.size w W := by
  have := four w (.cells #[.bool z, .func (.func g) #[] #[]] 53) (.cells #[.bool n1, .string x1, .string y1] 31) (.cells #[.bool n2, .string x2, .string y2] 31) (.cells #[.bool false, .string ⟨#[]⟩, .string ⟨#[]⟩] 31)
  dsimp only at this
  rw [← hW] at this
  obtain ⟨_, h0, h1, h2, h3, hb⟩ := this
  exact ⟨⟨h0, h1, h2, h3⟩, hb⟩
set_option maxRecDepth 100000 in
set_option maxHeartbeats 1000000 in
theorem run_inv1 (g : Nat) (n1 n2 : Bool) (x1 y1 x2 y2 : ByteArray) (w : World) (hTab : Tab w) (z : Bool) (hv1 : Sp.vld n1 x1 y1 = false) :
    Calls Tryz.prog 42 #[.agg #[.bool z, .func (.func g) #[] #[]], .agg #[.bool n1, .string x1, .string y1], .agg #[.bool n2, .string x2, .string y2]] w fun e w' => e = .returned (.tuple #[.agg #[.bool false, .string ⟨#[]⟩, .string ⟨#[]⟩], .int .i64 1]) ∧ Below w.heap.size w w' := by
  have HT := Lib.hid hTab
  have V1 := Lib.hid (fun w hT => ratio_Valid.calls 1 n1 x1 y1 false w hT (by rw [valid_val, hv1]))
  clear hv1
  have hp1 : ∀ W : World, W = (((w.alloc (.cells #[.bool z, .func (.func g) #[] #[]] 53)).alloc (.cells #[.bool n1, .string x1, .string y1] 31)).alloc (.cells #[.bool n2, .string x2, .string y2] 31)).alloc (.cells #[.bool false, .string ⟨#[]⟩, .string ⟨#[]⟩] 31) →
      Calls Tryz.prog 19 #[.agg #[.bool n1, .string x1, .string y1]] W fun e w' => e = .returned (.bool false) ∧ RB w.heap.size z g n1 n2 x1 y1 x2 y2 w' ∧ Below w.heap.size w w' := fun W hW => by
    obtain ⟨hr, hb⟩ := run_boxes w z g n1 n2 x1 y1 x2 y2 W hW
    refine (V1.out W (HT.out.below hb)).mono ?_
    rintro e w' ⟨rfl, hb2⟩
    exact ⟨rfl, hr.below hb2, hb.trans (hb2.mono hb.size)⟩
  have HP1 := Lib.hid hp1
  clear hTab hp1
  go_enter Tryz.func42, Tryz.ntmps42
  go_wp2_with (first
    | (go_at_call 19; with_reducible refine (HP1.out _ rfl).mono ?_; rintro e w1 ⟨rfl, hr, hb⟩; obtain ⟨o0, o1⟩ := hr.op; obtain ⟨a0, a1, a2, _, _, _⟩ := box3 hr.a; obtain ⟨b0, b1, b2, _, _, _⟩ := box3 hr.b; obtain ⟨k0, k1, k2, f0, f1, f2⟩ := box3 hr.r; have HR := Lib.hid hr; have HB := Lib.hid hb; clear hr hb))
  refine bodyPost_ret (results_ct rfl _ _ (w.heap.size + 3) 31 _ (0, 0) _ rfl (set3 HR.out.r _ _ _) Tryz.underlying31 rfl (by kernel_rfl)) rfl ?_
  exact ⟨rfl, ((HB.out.setCell (p := ⟨w.heap.size + 3, 0, none⟩) (by show _ ≤ w.heap.size + 3; omega) _).setCell (p := ⟨w.heap.size + 3, 1, none⟩) (by show _ ≤ w.heap.size + 3; omega) _).setCell (p := ⟨w.heap.size + 3, 2, none⟩) (by show _ ≤ w.heap.size + 3; omega) _⟩
set_option maxRecDepth 100000 in
set_option maxHeartbeats 1000000 in
theorem run_inv2 (g : Nat) (n1 n2 : Bool) (x1 y1 x2 y2 : ByteArray) (w : World) (hTab : Tab w) (z : Bool) (hv1 : Sp.vld n1 x1 y1 = true) (hv2 : Sp.vld n2 x2 y2 = false) :
    Calls Tryz.prog 42 #[.agg #[.bool z, .func (.func g) #[] #[]], .agg #[.bool n1, .string x1, .string y1], .agg #[.bool n2, .string x2, .string y2]] w fun e w' => e = .returned (.tuple #[.agg #[.bool false, .string ⟨#[]⟩, .string ⟨#[]⟩], .int .i64 1]) ∧ Below w.heap.size w w' := by
  have HT := Lib.hid hTab
  have V1 := Lib.hid (fun w hT => ratio_Valid.calls 1 n1 x1 y1 true w hT (by rw [valid_val, hv1]))
  have V2 := Lib.hid (fun w hT => ratio_Valid.calls 1 n2 x2 y2 false w hT (by rw [valid_val, hv2]))
  clear hv1 hv2
  have hp1 : ∀ W : World, W = (((w.alloc (.cells #[.bool z, .func (.func g) #[] #[]] 53)).alloc (.cells #[.bool n1, .string x1, .string y1] 31)).alloc (.cells #[.bool n2, .string x2, .string y2] 31)).alloc (.cells #[.bool false, .string ⟨#[]⟩, .string ⟨#[]⟩] 31) →
      Calls Tryz.prog 19 #[.agg #[.bool n1, .string x1, .string y1]] W fun e w' => e = .returned (.bool true) ∧ RB w.heap.size z g n1 n2 x1 y1 x2 y2 w' ∧ Below w.heap.size w w' := fun W hW => by
    obtain ⟨hr, hb⟩ := run_boxes w z g n1 n2 x1 y1 x2 y2 W hW
    refine (V1.out W (HT.out.below hb)).mono ?_
    rintro e w' ⟨rfl, hb2⟩
    exact ⟨rfl, hr.below hb2, hb.trans (hb2.mono hb.size)⟩
  have HP1 := Lib.hid hp1
  clear hTab hp1
  go_enter Tryz.func42, Tryz.ntmps42
  go_wp2_with (first
    | (go_at_call 19; with_reducible refine (HP1.out _ rfl).mono ?_; rintro e w1 ⟨rfl, hr, hb⟩; obtain ⟨o0, o1⟩ := hr.op; obtain ⟨a0, a1, a2, _, _, _⟩ := box3 hr.a; obtain ⟨b0, b1, b2, _, _, _⟩ := box3 hr.b; obtain ⟨k0, k1, k2, f0, f1, f2⟩ := box3 hr.r; have HR := Lib.hid hr; have HB := Lib.hid hb; clear hr hb)
    | (go_at_call 19; with_reducible refine (V2.out _ (HT.out.below HB.out)).mono ?_; rintro e w2 ⟨rfl, hb2⟩; have hb := HB.out.trans (hb2.mono HB.out.size); have hr := HR.out.below hb2; clear hb2; obtain ⟨o0, o1⟩ := hr.op; obtain ⟨a0, a1, a2, _, _, _⟩ := box3 hr.a; obtain ⟨b0, b1, b2, _, _, _⟩ := box3 hr.b; obtain ⟨k0, k1, k2, f0, f1, f2⟩ := box3 hr.r; have HR := Lib.hid hr; have HB := Lib.hid hb; clear hr hb))
  refine bodyPost_ret (results_ct rfl _ _ (w.heap.size + 3) 31 _ (0, 0) _ rfl (set3 HR.out.r _ _ _) Tryz.underlying31 rfl (by kernel_rfl)) rfl ?_
  exact ⟨rfl, ((HB.out.setCell (p := ⟨w.heap.size + 3, 0, none⟩) (by show _ ≤ w.heap.size + 3; omega) _).setCell (p := ⟨w.heap.size + 3, 1, none⟩) (by show _ ≤ w.heap.size + 3; omega) _).setCell (p := ⟨w.heap.size + 3, 2, none⟩) (by show _ ≤ w.heap.size + 3; omega) _⟩
set_option maxRecDepth 100000 in
set_option maxHeartbeats 1000000 in
theorem run_zero (g : Nat) (n1 n2 : Bool) (x1 y1 x2 y2 : ByteArray) (w : World) (hTab : Tab w) (hv1 : Sp.vld n1 x1 y1 = true) (hv2 : Sp.vld n2 x2 y2 = true) (hz : x2.toList = [48]) :
    Calls Tryz.prog 42 #[.agg #[.bool true, .func (.func g) #[] #[]], .agg #[.bool n1, .string x1, .string y1], .agg #[.bool n2, .string x2, .string y2]] w fun e w' => e = .returned (.tuple #[.agg #[.bool false, .string ⟨#[]⟩, .string ⟨#[]⟩], .int .i64 15]) ∧ Below w.heap.size w w' := by
  have HT := Lib.hid hTab
  have V1 := Lib.hid (fun w hT => ratio_Valid.calls 1 n1 x1 y1 true w hT (by rw [valid_val, hv1]))
  have V2 := Lib.hid (fun w hT => ratio_Valid.calls 1 n2 x2 y2 true w hT (by rw [valid_val, hv2]))
  have hz2 : (x2.toList == [48]) = true := by rw [beq_iff_eq]; exact hz
  clear hv1 hv2
  have hp1 : ∀ W : World, W = (((w.alloc (.cells #[.bool true, .func (.func g) #[] #[]] 53)).alloc (.cells #[.bool n1, .string x1, .string y1] 31)).alloc (.cells #[.bool n2, .string x2, .string y2] 31)).alloc (.cells #[.bool false, .string ⟨#[]⟩, .string ⟨#[]⟩] 31) →
      Calls Tryz.prog 19 #[.agg #[.bool n1, .string x1, .string y1]] W fun e w' => e = .returned (.bool true) ∧ RB w.heap.size true g n1 n2 x1 y1 x2 y2 w' ∧ Below w.heap.size w w' := fun W hW => by
    obtain ⟨hr, hb⟩ := run_boxes w true g n1 n2 x1 y1 x2 y2 W hW
    refine (V1.out W (HT.out.below hb)).mono ?_
    rintro e w' ⟨rfl, hb2⟩
    exact ⟨rfl, hr.below hb2, hb.trans (hb2.mono hb.size)⟩
  have HP1 := Lib.hid hp1
  clear hTab hp1
  go_enter Tryz.func42, Tryz.ntmps42
  go_wp2_with (first
    | (go_at_call 19; with_reducible refine (HP1.out _ rfl).mono ?_; rintro e w1 ⟨rfl, hr, hb⟩; obtain ⟨o0, o1⟩ := hr.op; obtain ⟨a0, a1, a2, _, _, _⟩ := box3 hr.a; obtain ⟨b0, b1, b2, _, _, _⟩ := box3 hr.b; obtain ⟨k0, k1, k2, f0, f1, f2⟩ := box3 hr.r; have HR := Lib.hid hr; have HB := Lib.hid hb; clear hr hb)
    | (go_at_call 19; with_reducible refine (V2.out _ (HT.out.below HB.out)).mono ?_; rintro e w2 ⟨rfl, hb2⟩; have hb := HB.out.trans (hb2.mono HB.out.size); have hr := HR.out.below hb2; clear hb2; obtain ⟨o0, o1⟩ := hr.op; obtain ⟨a0, a1, a2, _, _, _⟩ := box3 hr.a; obtain ⟨b0, b1, b2, _, _, _⟩ := box3 hr.b; obtain ⟨k0, k1, k2, f0, f1, f2⟩ := box3 hr.r; have HR := Lib.hid hr; have HB := Lib.hid hb; clear hr hb))
  refine bodyPost_ret (results_ct rfl _ _ (w.heap.size + 3) 31 _ (0, 0) _ rfl (set3 HR.out.r _ _ _) Tryz.underlying31 rfl (by kernel_rfl)) rfl ?_
  exact ⟨rfl, ((HB.out.setCell (p := ⟨w.heap.size + 3, 0, none⟩) (by show _ ≤ w.heap.size + 3; omega) _).setCell (p := ⟨w.heap.size + 3, 1, none⟩) (by show _ ≤ w.heap.size + 3; omega) _).setCell (p := ⟨w.heap.size + 3, 2, none⟩) (by show _ ≤ w.heap.size + 3; omega) _⟩
end Go.Proofs.YtmkanjcehhbmlaaGreatDoor.Pr
end

section
namespace Go.Proofs.YtmkanjcehhbmlaaGreatDoor.Pr
set_option linter.unusedSimpArgs false
set_option linter.unusedVariables false
set_option exponentiation.threshold 400
open Go.RowKit Go.Shelf Go.Proofs.YtmkanjcehhbmlaaGreatDoorW.PrintWords Go.Proofs.YtmkanjcehhbmlaaGreatDoorW.PrintLast Go.Proofs.YtmkanjcehhbmlaaGreatDoorW.PrintMore
set_option maxRecDepth 100000 in
set_option maxHeartbeats 1000000 in
theorem run_long_true0 (g : Nat) (n1 n2 : Bool) (x1 y1 x2 y2 : ByteArray) (w : World) (hTab : Tab w) (hv1 : Sp.vld n1 x1 y1 = true) (hv2 : Sp.vld n2 x2 y2 = true) (hz : ¬ x2.toList = [48]) (l0 : 140 < x1.size) :
    Calls Tryz.prog 42 #[.agg #[.bool true, .func (.func g) #[] #[]], .agg #[.bool n1, .string x1, .string y1], .agg #[.bool n2, .string x2, .string y2]] w fun e w' => e = .returned (.tuple #[.agg #[.bool false, .string ⟨#[]⟩, .string ⟨#[]⟩], .int .i64 2]) ∧ Below w.heap.size w w' := by
  have HT := Lib.hid hTab
  have V1 := Lib.hid (fun w hT => ratio_Valid.calls 1 n1 x1 y1 true w hT (by rw [valid_val, hv1]))
  have V2 := Lib.hid (fun w hT => ratio_Valid.calls 1 n2 x2 y2 true w hT (by rw [valid_val, hv2]))
  have hz2 : (x2.toList == [48]) = false := by rw [beq_eq_false_iff_ne]; exact hz
  have m0 : (140 : Int) < (x1.size : Int) := by omega
  clear hv1 hv2
  have hp1 : ∀ W : World, W = (((w.alloc (.cells #[.bool true, .func (.func g) #[] #[]] 53)).alloc (.cells #[.bool n1, .string x1, .string y1] 31)).alloc (.cells #[.bool n2, .string x2, .string y2] 31)).alloc (.cells #[.bool false, .string ⟨#[]⟩, .string ⟨#[]⟩] 31) →
      Calls Tryz.prog 19 #[.agg #[.bool n1, .string x1, .string y1]] W fun e w' => e = .returned (.bool true) ∧ RB w.heap.size true g n1 n2 x1 y1 x2 y2 w' ∧ Below w.heap.size w w' := fun W hW => by
    obtain ⟨hr, hb⟩ := run_boxes w true g n1 n2 x1 y1 x2 y2 W hW
    refine (V1.out W (HT.out.below hb)).mono ?_
    rintro e w' ⟨rfl, hb2⟩
    exact ⟨rfl, hr.below hb2, hb.trans (hb2.mono hb.size)⟩
  have HP1 := Lib.hid hp1
  clear hTab hp1
  go_enter Tryz.func42, Tryz.ntmps42
  go_wp2_with (first
    | (go_at_call 19; with_reducible refine (HP1.out _ rfl).mono ?_; rintro e w1 ⟨rfl, hr, hb⟩; obtain ⟨o0, o1⟩ := hr.op; obtain ⟨a0, a1, a2, _, _, _⟩ := box3 hr.a; obtain ⟨b0, b1, b2, _, _, _⟩ := box3 hr.b; obtain ⟨k0, k1, k2, f0, f1, f2⟩ := box3 hr.r; have HR := Lib.hid hr; have HB := Lib.hid hb; clear hr hb)
    | (go_at_call 19; with_reducible refine (V2.out _ (HT.out.below HB.out)).mono ?_; rintro e w2 ⟨rfl, hb2⟩; have hb := HB.out.trans (hb2.mono HB.out.size); have hr := HR.out.below hb2; clear hb2; obtain ⟨o0, o1⟩ := hr.op; obtain ⟨a0, a1, a2, _, _, _⟩ := box3 hr.a; obtain ⟨b0, b1, b2, _, _, _⟩ := box3 hr.b; obtain ⟨k0, k1, k2, f0, f1, f2⟩ := box3 hr.r; have HR := Lib.hid hr; have HB := Lib.hid hb; clear hr hb))
  refine bodyPost_ret (results_ct rfl _ _ (w.heap.size + 3) 31 _ (0, 0) _ rfl (set3 HR.out.r _ _ _) Tryz.underlying31 rfl (by kernel_rfl)) rfl ?_
  exact ⟨rfl, ((HB.out.setCell (p := ⟨w.heap.size + 3, 0, none⟩) (by show _ ≤ w.heap.size + 3; omega) _).setCell (p := ⟨w.heap.size + 3, 1, none⟩) (by show _ ≤ w.heap.size + 3; omega) _).setCell (p := ⟨w.heap.size + 3, 2, none⟩) (by show _ ≤ w.heap.size + 3; omega) _⟩
set_option maxRecDepth 100000 in
set_option maxHeartbeats 1000000 in
theorem run_long_true1 (g : Nat) (n1 n2 : Bool) (x1 y1 x2 y2 : ByteArray) (w : World) (hTab : Tab w) (hv1 : Sp.vld n1 x1 y1 = true) (hv2 : Sp.vld n2 x2 y2 = true) (hz : ¬ x2.toList = [48]) (l0 : ¬ 140 < x1.size) (l1 : 140 < y1.size) :
    Calls Tryz.prog 42 #[.agg #[.bool true, .func (.func g) #[] #[]], .agg #[.bool n1, .string x1, .string y1], .agg #[.bool n2, .string x2, .string y2]] w fun e w' => e = .returned (.tuple #[.agg #[.bool false, .string ⟨#[]⟩, .string ⟨#[]⟩], .int .i64 2]) ∧ Below w.heap.size w w' := by
  have HT := Lib.hid hTab
  have V1 := Lib.hid (fun w hT => ratio_Valid.calls 1 n1 x1 y1 true w hT (by rw [valid_val, hv1]))
  have V2 := Lib.hid (fun w hT => ratio_Valid.calls 1 n2 x2 y2 true w hT (by rw [valid_val, hv2]))
  have hz2 : (x2.toList == [48]) = false := by rw [beq_eq_false_iff_ne]; exact hz
  have m0 : ¬ (140 : Int) < (x1.size : Int) := by omega
  have m1 : (140 : Int) < (y1.size : Int) := by omega
  clear hv1 hv2
  have hp1 : ∀ W : World, W = (((w.alloc (.cells #[.bool true, .func (.func g) #[] #[]] 53)).alloc (.cells #[.bool n1, .string x1, .string y1] 31)).alloc (.cells #[.bool n2, .string x2, .string y2] 31)).alloc (.cells #[.bool false, .string ⟨#[]⟩, .string ⟨#[]⟩] 31) →
      Calls Tryz.prog 19 #[.agg #[.bool n1, .string x1, .string y1]] W fun e w' => e = .returned (.bool true) ∧ RB w.heap.size true g n1 n2 x1 y1 x2 y2 w' ∧ Below w.heap.size w w' := fun W hW => by
    obtain ⟨hr, hb⟩ := run_boxes w true g n1 n2 x1 y1 x2 y2 W hW
    refine (V1.out W (HT.out.below hb)).mono ?_
    rintro e w' ⟨rfl, hb2⟩
    exact ⟨rfl, hr.below hb2, hb.trans (hb2.mono hb.size)⟩
  have HP1 := Lib.hid hp1
  clear hTab hp1
  go_enter Tryz.func42, Tryz.ntmps42
  go_wp2_with (first
    | (go_at_call 19; with_reducible refine (HP1.out _ rfl).mono ?_; rintro e w1 ⟨rfl, hr, hb⟩; obtain ⟨o0, o1⟩ := hr.op; obtain ⟨a0, a1, a2, _, _, _⟩ := box3 hr.a; obtain ⟨b0, b1, b2, _, _, _⟩ := box3 hr.b; obtain ⟨k0, k1, k2, f0, f1, f2⟩ := box3 hr.r; have HR := Lib.hid hr; have HB := Lib.hid hb; clear hr hb)
    | (go_at_call 19; with_reducible refine (V2.out _ (HT.out.below HB.out)).mono ?_; rintro e w2 ⟨rfl, hb2⟩; have hb := HB.out.trans (hb2.mono HB.out.size); have hr := HR.out.below hb2; clear hb2; obtain ⟨o0, o1⟩ := hr.op; obtain ⟨a0, a1, a2, _, _, _⟩ := box3 hr.a; obtain ⟨b0, b1, b2, _, _, _⟩ := box3 hr.b; obtain ⟨k0, k1, k2, f0, f1, f2⟩ := box3 hr.r; have HR := Lib.hid hr; have HB := Lib.hid hb; clear hr hb))
  refine bodyPost_ret (results_ct rfl _ _ (w.heap.size + 3) 31 _ (0, 0) _ rfl (set3 HR.out.r _ _ _) Tryz.underlying31 rfl (by kernel_rfl)) rfl ?_
  exact ⟨rfl, ((HB.out.setCell (p := ⟨w.heap.size + 3, 0, none⟩) (by show _ ≤ w.heap.size + 3; omega) _).setCell (p := ⟨w.heap.size + 3, 1, none⟩) (by show _ ≤ w.heap.size + 3; omega) _).setCell (p := ⟨w.heap.size + 3, 2, none⟩) (by show _ ≤ w.heap.size + 3; omega) _⟩
set_option maxRecDepth 100000 in
set_option maxHeartbeats 1000000 in
theorem run_long_true2 (g : Nat) (n1 n2 : Bool) (x1 y1 x2 y2 : ByteArray) (w : World) (hTab : Tab w) (hv1 : Sp.vld n1 x1 y1 = true) (hv2 : Sp.vld n2 x2 y2 = true) (hz : ¬ x2.toList = [48]) (l0 : ¬ 140 < x1.size) (l1 : ¬ 140 < y1.size) (l2 : 140 < x2.size) :
    Calls Tryz.prog 42 #[.agg #[.bool true, .func (.func g) #[] #[]], .agg #[.bool n1, .string x1, .string y1], .agg #[.bool n2, .string x2, .string y2]] w fun e w' => e = .returned (.tuple #[.agg #[.bool false, .string ⟨#[]⟩, .string ⟨#[]⟩], .int .i64 2]) ∧ Below w.heap.size w w' := by
  have HT := Lib.hid hTab
  have V1 := Lib.hid (fun w hT => ratio_Valid.calls 1 n1 x1 y1 true w hT (by rw [valid_val, hv1]))
  have V2 := Lib.hid (fun w hT => ratio_Valid.calls 1 n2 x2 y2 true w hT (by rw [valid_val, hv2]))
  have hz2 : (x2.toList == [48]) = false := by rw [beq_eq_false_iff_ne]; exact hz
  have m0 : ¬ (140 : Int) < (x1.size : Int) := by omega
  have m1 : ¬ (140 : Int) < (y1.size : Int) := by omega
  have m2 : (140 : Int) < (x2.size : Int) := by omega
  clear hv1 hv2
  have hp1 : ∀ W : World, W = (((w.alloc (.cells #[.bool true, .func (.func g) #[] #[]] 53)).alloc (.cells #[.bool n1, .string x1, .string y1] 31)).alloc (.cells #[.bool n2, .string x2, .string y2] 31)).alloc (.cells #[.bool false, .string ⟨#[]⟩, .string ⟨#[]⟩] 31) →
      Calls Tryz.prog 19 #[.agg #[.bool n1, .string x1, .string y1]] W fun e w' => e = .returned (.bool true) ∧ RB w.heap.size true g n1 n2 x1 y1 x2 y2 w' ∧ Below w.heap.size w w' := fun W hW => by
    obtain ⟨hr, hb⟩ := run_boxes w true g n1 n2 x1 y1 x2 y2 W hW
    refine (V1.out W (HT.out.below hb)).mono ?_
    rintro e w' ⟨rfl, hb2⟩
    exact ⟨rfl, hr.below hb2, hb.trans (hb2.mono hb.size)⟩
  have HP1 := Lib.hid hp1
  clear hTab hp1
  go_enter Tryz.func42, Tryz.ntmps42
  go_wp2_with (first
    | (go_at_call 19; with_reducible refine (HP1.out _ rfl).mono ?_; rintro e w1 ⟨rfl, hr, hb⟩; obtain ⟨o0, o1⟩ := hr.op; obtain ⟨a0, a1, a2, _, _, _⟩ := box3 hr.a; obtain ⟨b0, b1, b2, _, _, _⟩ := box3 hr.b; obtain ⟨k0, k1, k2, f0, f1, f2⟩ := box3 hr.r; have HR := Lib.hid hr; have HB := Lib.hid hb; clear hr hb)
    | (go_at_call 19; with_reducible refine (V2.out _ (HT.out.below HB.out)).mono ?_; rintro e w2 ⟨rfl, hb2⟩; have hb := HB.out.trans (hb2.mono HB.out.size); have hr := HR.out.below hb2; clear hb2; obtain ⟨o0, o1⟩ := hr.op; obtain ⟨a0, a1, a2, _, _, _⟩ := box3 hr.a; obtain ⟨b0, b1, b2, _, _, _⟩ := box3 hr.b; obtain ⟨k0, k1, k2, f0, f1, f2⟩ := box3 hr.r; have HR := Lib.hid hr; have HB := Lib.hid hb; clear hr hb))
  refine bodyPost_ret (results_ct rfl _ _ (w.heap.size + 3) 31 _ (0, 0) _ rfl (set3 HR.out.r _ _ _) Tryz.underlying31 rfl (by kernel_rfl)) rfl ?_
  exact ⟨rfl, ((HB.out.setCell (p := ⟨w.heap.size + 3, 0, none⟩) (by show _ ≤ w.heap.size + 3; omega) _).setCell (p := ⟨w.heap.size + 3, 1, none⟩) (by show _ ≤ w.heap.size + 3; omega) _).setCell (p := ⟨w.heap.size + 3, 2, none⟩) (by show _ ≤ w.heap.size + 3; omega) _⟩
end Go.Proofs.YtmkanjcehhbmlaaGreatDoor.Pr
end

section
namespace Go.Proofs.YtmkanjcehhbmlaaGreatDoor.Pr
set_option linter.unusedSimpArgs false
set_option linter.unusedVariables false
set_option exponentiation.threshold 400
open Go.RowKit Go.Shelf Go.Proofs.YtmkanjcehhbmlaaGreatDoorW.PrintWords Go.Proofs.YtmkanjcehhbmlaaGreatDoorW.PrintLast Go.Proofs.YtmkanjcehhbmlaaGreatDoorW.PrintMore
set_option maxRecDepth 100000 in
set_option maxHeartbeats 1000000 in
theorem run_long_true3 (g : Nat) (n1 n2 : Bool) (x1 y1 x2 y2 : ByteArray) (w : World) (hTab : Tab w) (hv1 : Sp.vld n1 x1 y1 = true) (hv2 : Sp.vld n2 x2 y2 = true) (hz : ¬ x2.toList = [48]) (l0 : ¬ 140 < x1.size) (l1 : ¬ 140 < y1.size) (l2 : ¬ 140 < x2.size) (l3 : 140 < y2.size) :
    Calls Tryz.prog 42 #[.agg #[.bool true, .func (.func g) #[] #[]], .agg #[.bool n1, .string x1, .string y1], .agg #[.bool n2, .string x2, .string y2]] w fun e w' => e = .returned (.tuple #[.agg #[.bool false, .string ⟨#[]⟩, .string ⟨#[]⟩], .int .i64 2]) ∧ Below w.heap.size w w' := by
  have HT := Lib.hid hTab
  have V1 := Lib.hid (fun w hT => ratio_Valid.calls 1 n1 x1 y1 true w hT (by rw [valid_val, hv1]))
  have V2 := Lib.hid (fun w hT => ratio_Valid.calls 1 n2 x2 y2 true w hT (by rw [valid_val, hv2]))
  have hz2 : (x2.toList == [48]) = false := by rw [beq_eq_false_iff_ne]; exact hz
  have m0 : ¬ (140 : Int) < (x1.size : Int) := by omega
  have m1 : ¬ (140 : Int) < (y1.size : Int) := by omega
  have m2 : ¬ (140 : Int) < (x2.size : Int) := by omega
  have m3 : (140 : Int) < (y2.size : Int) := by omega
  clear hv1 hv2
  have hp1 : ∀ W : World, W = (((w.alloc (.cells #[.bool true, .func (.func g) #[] #[]] 53)).alloc (.cells #[.bool n1, .string x1, .string y1] 31)).alloc (.cells #[.bool n2, .string x2, .string y2] 31)).alloc (.cells #[.bool false, .string ⟨#[]⟩, .string ⟨#[]⟩] 31) →
      Calls Tryz.prog 19 #[.agg #[.bool n1, .string x1, .string y1]] W fun e w' => e = .returned (.bool true) ∧ RB w.heap.size true g n1 n2 x1 y1 x2 y2 w' ∧ Below w.heap.size w w' := fun W hW => by
    obtain ⟨hr, hb⟩ := run_boxes w true g n1 n2 x1 y1 x2 y2 W hW
    refine (V1.out W (HT.out.below hb)).mono ?_
    rintro e w' ⟨rfl, hb2⟩
    exact ⟨rfl, hr.below hb2, hb.trans (hb2.mono hb.size)⟩
  have HP1 := Lib.hid hp1
  clear hTab hp1
  go_enter Tryz.func42, Tryz.ntmps42
  go_wp2_with (first
    | (go_at_call 19; with_reducible refine (HP1.out _ rfl).mono ?_; rintro e w1 ⟨rfl, hr, hb⟩; obtain ⟨o0, o1⟩ := hr.op; obtain ⟨a0, a1, a2, _, _, _⟩ := box3 hr.a; obtain ⟨b0, b1, b2, _, _, _⟩ := box3 hr.b; obtain ⟨k0, k1, k2, f0, f1, f2⟩ := box3 hr.r; have HR := Lib.hid hr; have HB := Lib.hid hb; clear hr hb)
    | (go_at_call 19; with_reducible refine (V2.out _ (HT.out.below HB.out)).mono ?_; rintro e w2 ⟨rfl, hb2⟩; have hb := HB.out.trans (hb2.mono HB.out.size); have hr := HR.out.below hb2; clear hb2; obtain ⟨o0, o1⟩ := hr.op; obtain ⟨a0, a1, a2, _, _, _⟩ := box3 hr.a; obtain ⟨b0, b1, b2, _, _, _⟩ := box3 hr.b; obtain ⟨k0, k1, k2, f0, f1, f2⟩ := box3 hr.r; have HR := Lib.hid hr; have HB := Lib.hid hb; clear hr hb))
  refine bodyPost_ret (results_ct rfl _ _ (w.heap.size + 3) 31 _ (0, 0) _ rfl (set3 HR.out.r _ _ _) Tryz.underlying31 rfl (by kernel_rfl)) rfl ?_
  exact ⟨rfl, ((HB.out.setCell (p := ⟨w.heap.size + 3, 0, none⟩) (by show _ ≤ w.heap.size + 3; omega) _).setCell (p := ⟨w.heap.size + 3, 1, none⟩) (by show _ ≤ w.heap.size + 3; omega) _).setCell (p := ⟨w.heap.size + 3, 2, none⟩) (by show _ ≤ w.heap.size + 3; omega) _⟩
set_option maxRecDepth 100000 in
set_option maxHeartbeats 1000000 in
theorem run_go_true (g : Nat) (n1 n2 : Bool) (x1 y1 x2 y2 : ByteArray) (w : World) (hTab : Tab w) (q0 : Bool) (q1 q2 : ByteArray) (q3 : Int) (eg : ∀ args w, (callFunc g args).run Tryz.prog w = .ok (.enter g args) w) (hop : ∀ W, Tab W → Calls Tryz.prog g #[.agg #[.bool n1, .string x1, .string y1], .agg #[.bool n2, .string x2, .string y2]] W fun e w' => e = .returned (.tuple #[.agg #[.bool q0, .string q1, .string q2], .int .i64 q3]) ∧ Below W.heap.size W w') (hv1 : Sp.vld n1 x1 y1 = true) (hv2 : Sp.vld n2 x2 y2 = true) (hz : ¬ x2.toList = [48]) (l0 : ¬ 140 < x1.size) (l1 : ¬ 140 < y1.size) (l2 : ¬ 140 < x2.size) (l3 : ¬ 140 < y2.size) :
    Calls Tryz.prog 42 #[.agg #[.bool true, .func (.func g) #[] #[]], .agg #[.bool n1, .string x1, .string y1], .agg #[.bool n2, .string x2, .string y2]] w fun e w' => e = .returned (.tuple #[.agg #[.bool q0, .string q1, .string q2], .int .i64 q3]) ∧ Below w.heap.size w w' := by
  have HT := Lib.hid hTab
  have V1 := Lib.hid (fun w hT => ratio_Valid.calls 1 n1 x1 y1 true w hT (by rw [valid_val, hv1]))
  have V2 := Lib.hid (fun w hT => ratio_Valid.calls 1 n2 x2 y2 true w hT (by rw [valid_val, hv2]))
  have hz2 : (x2.toList == [48]) = false := by rw [beq_eq_false_iff_ne]; exact hz
  have m0 : ¬ (140 : Int) < (x1.size : Int) := by omega
  have m1 : ¬ (140 : Int) < (y1.size : Int) := by omega
  have m2 : ¬ (140 : Int) < (x2.size : Int) := by omega
  have m3 : ¬ (140 : Int) < (y2.size : Int) := by omega
  clear hv1 hv2
  have HOP := Lib.hid hop
  clear hop
  have hp1 : ∀ W : World, W = (((w.alloc (.cells #[.bool true, .func (.func g) #[] #[]] 53)).alloc (.cells #[.bool n1, .string x1, .string y1] 31)).alloc (.cells #[.bool n2, .string x2, .string y2] 31)).alloc (.cells #[.bool false, .string ⟨#[]⟩, .string ⟨#[]⟩] 31) →
      Calls Tryz.prog 19 #[.agg #[.bool n1, .string x1, .string y1]] W fun e w' => e = .returned (.bool true) ∧ RB w.heap.size true g n1 n2 x1 y1 x2 y2 w' ∧ Below w.heap.size w w' := fun W hW => by
    obtain ⟨hr, hb⟩ := run_boxes w true g n1 n2 x1 y1 x2 y2 W hW
    refine (V1.out W (HT.out.below hb)).mono ?_
    rintro e w' ⟨rfl, hb2⟩
    exact ⟨rfl, hr.below hb2, hb.trans (hb2.mono hb.size)⟩
  have HP1 := Lib.hid hp1
  clear hTab hp1
  go_enter Tryz.func42, Tryz.ntmps42
  go_wp2_with (first
    | (go_at_call 19; with_reducible refine (HP1.out _ rfl).mono ?_; rintro e w1 ⟨rfl, hr, hb⟩; obtain ⟨o0, o1⟩ := hr.op; obtain ⟨a0, a1, a2, _, _, _⟩ := box3 hr.a; obtain ⟨b0, b1, b2, _, _, _⟩ := box3 hr.b; obtain ⟨k0, k1, k2, f0, f1, f2⟩ := box3 hr.r; have HR := Lib.hid hr; have HB := Lib.hid hb; clear hr hb)
    | (go_at_call 19; with_reducible refine (V2.out _ (HT.out.below HB.out)).mono ?_; rintro e w2 ⟨rfl, hb2⟩; have hb := HB.out.trans (hb2.mono HB.out.size); have hr := HR.out.below hb2; clear hb2; obtain ⟨o0, o1⟩ := hr.op; obtain ⟨a0, a1, a2, _, _, _⟩ := box3 hr.a; obtain ⟨b0, b1, b2, _, _, _⟩ := box3 hr.b; obtain ⟨k0, k1, k2, f0, f1, f2⟩ := box3 hr.r; have HR := Lib.hid hr; have HB := Lib.hid hb; clear hr hb))
  go_wp2_with fail
  refine (HOP.out _ (HT.out.below HB.out)).mono ?_
  rintro e w3 ⟨rfl, hb3⟩
  have hb := HB.out.trans (hb3.mono HB.out.size)
  have hr := HR.out.below hb3
  clear hb3
  obtain ⟨k0, k1, k2, f0, f1, f2⟩ := box3 hr.r
  have HR := Lib.hid hr
  have HB := Lib.hid hb
  clear hr hb
  go_wp2
  refine bodyPost_ret (results_ct rfl _ _ (w.heap.size + 3) 31 _ (0, 0) _ rfl (set3 HR.out.r _ _ _) Tryz.underlying31 rfl (by kernel_rfl)) rfl ?_
  exact ⟨rfl, ((HB.out.setCell (p := ⟨w.heap.size + 3, 0, none⟩) (by show _ ≤ w.heap.size + 3; omega) _).setCell (p := ⟨w.heap.size + 3, 1, none⟩) (by show _ ≤ w.heap.size + 3; omega) _).setCell (p := ⟨w.heap.size + 3, 2, none⟩) (by show _ ≤ w.heap.size + 3; omega) _⟩
end Go.Proofs.YtmkanjcehhbmlaaGreatDoor.Pr
end

section
namespace Go.Proofs.YtmkanjcehhbmlaaGreatDoor.Pr
set_option linter.unusedSimpArgs false
set_option linter.unusedVariables false
set_option exponentiation.threshold 400
open Go.RowKit Go.Shelf Go.Proofs.YtmkanjcehhbmlaaGreatDoorW.PrintWords Go.Proofs.YtmkanjcehhbmlaaGreatDoorW.PrintLast Go.Proofs.YtmkanjcehhbmlaaGreatDoorW.PrintMore
set_option maxRecDepth 100000 in
set_option maxHeartbeats 1000000 in
theorem run_long_false0 (g : Nat) (n1 n2 : Bool) (x1 y1 x2 y2 : ByteArray) (w : World) (hTab : Tab w) (hv1 : Sp.vld n1 x1 y1 = true) (hv2 : Sp.vld n2 x2 y2 = true) (l0 : 140 < x1.size) :
    Calls Tryz.prog 42 #[.agg #[.bool false, .func (.func g) #[] #[]], .agg #[.bool n1, .string x1, .string y1], .agg #[.bool n2, .string x2, .string y2]] w fun e w' => e = .returned (.tuple #[.agg #[.bool false, .string ⟨#[]⟩, .string ⟨#[]⟩], .int .i64 2]) ∧ Below w.heap.size w w' := by
  have HT := Lib.hid hTab
  have V1 := Lib.hid (fun w hT => ratio_Valid.calls 1 n1 x1 y1 true w hT (by rw [valid_val, hv1]))
  have V2 := Lib.hid (fun w hT => ratio_Valid.calls 1 n2 x2 y2 true w hT (by rw [valid_val, hv2]))
  have m0 : (140 : Int) < (x1.size : Int) := by omega
  clear hv1 hv2
  have hp1 : ∀ W : World, W = (((w.alloc (.cells #[.bool false, .func (.func g) #[] #[]] 53)).alloc (.cells #[.bool n1, .string x1, .string y1] 31)).alloc (.cells #[.bool n2, .string x2, .string y2] 31)).alloc (.cells #[.bool false, .string ⟨#[]⟩, .string ⟨#[]⟩] 31) →
      Calls Tryz.prog 19 #[.agg #[.bool n1, .string x1, .string y1]] W fun e w' => e = .returned (.bool true) ∧ RB w.heap.size false g n1 n2 x1 y1 x2 y2 w' ∧ Below w.heap.size w w' := fun W hW => by
    obtain ⟨hr, hb⟩ := run_boxes w false g n1 n2 x1 y1 x2 y2 W hW
    refine (V1.out W (HT.out.below hb)).mono ?_
    rintro e w' ⟨rfl, hb2⟩
    exact ⟨rfl, hr.below hb2, hb.trans (hb2.mono hb.size)⟩
  have HP1 := Lib.hid hp1
  clear hTab hp1
  go_enter Tryz.func42, Tryz.ntmps42
  go_wp2_with (first
    | (go_at_call 19; with_reducible refine (HP1.out _ rfl).mono ?_; rintro e w1 ⟨rfl, hr, hb⟩; obtain ⟨o0, o1⟩ := hr.op; obtain ⟨a0, a1, a2, _, _, _⟩ := box3 hr.a; obtain ⟨b0, b1, b2, _, _, _⟩ := box3 hr.b; obtain ⟨k0, k1, k2, f0, f1, f2⟩ := box3 hr.r; have HR := Lib.hid hr; have HB := Lib.hid hb; clear hr hb)
    | (go_at_call 19; with_reducible refine (V2.out _ (HT.out.below HB.out)).mono ?_; rintro e w2 ⟨rfl, hb2⟩; have hb := HB.out.trans (hb2.mono HB.out.size); have hr := HR.out.below hb2; clear hb2; obtain ⟨o0, o1⟩ := hr.op; obtain ⟨a0, a1, a2, _, _, _⟩ := box3 hr.a; obtain ⟨b0, b1, b2, _, _, _⟩ := box3 hr.b; obtain ⟨k0, k1, k2, f0, f1, f2⟩ := box3 hr.r; have HR := Lib.hid hr; have HB := Lib.hid hb; clear hr hb))
  refine bodyPost_ret (results_ct rfl _ _ (w.heap.size + 3) 31 _ (0, 0) _ rfl (set3 HR.out.r _ _ _) Tryz.underlying31 rfl (by kernel_rfl)) rfl ?_
  exact ⟨rfl, ((HB.out.setCell (p := ⟨w.heap.size + 3, 0, none⟩) (by show _ ≤ w.heap.size + 3; omega) _).setCell (p := ⟨w.heap.size + 3, 1, none⟩) (by show _ ≤ w.heap.size + 3; omega) _).setCell (p := ⟨w.heap.size + 3, 2, none⟩) (by show _ ≤ w.heap.size + 3; omega) _⟩
set_option maxRecDepth 100000 in
set_option maxHeartbeats 1000000 in
theorem run_long_false1 (g : Nat) (n1 n2 : Bool) (x1 y1 x2 y2 : ByteArray) (w : World) (hTab : Tab w) (hv1 : Sp.vld n1 x1 y1 = true) (hv2 : Sp.vld n2 x2 y2 = true) (l0 : ¬ 140 < x1.size) (l1 : 140 < y1.size) :
    Calls Tryz.prog 42 #[.agg #[.bool false, .func (.func g) #[] #[]], .agg #[.bool n1, .string x1, .string y1], .agg #[.bool n2, .string x2, .string y2]] w fun e w' => e = .returned (.tuple #[.agg #[.bool false, .string ⟨#[]⟩, .string ⟨#[]⟩], .int .i64 2]) ∧ Below w.heap.size w w' := by
  have HT := Lib.hid hTab
  have V1 := Lib.hid (fun w hT => ratio_Valid.calls 1 n1 x1 y1 true w hT (by rw [valid_val, hv1]))
  have V2 := Lib.hid (fun w hT => ratio_Valid.calls 1 n2 x2 y2 true w hT (by rw [valid_val, hv2]))
  have m0 : ¬ (140 : Int) < (x1.size : Int) := by omega
  have m1 : (140 : Int) < (y1.size : Int) := by omega
  clear hv1 hv2
  have hp1 : ∀ W : World, W = (((w.alloc (.cells #[.bool false, .func (.func g) #[] #[]] 53)).alloc (.cells #[.bool n1, .string x1, .string y1] 31)).alloc (.cells #[.bool n2, .string x2, .string y2] 31)).alloc (.cells #[.bool false, .string ⟨#[]⟩, .string ⟨#[]⟩] 31) →
      Calls Tryz.prog 19 #[.agg #[.bool n1, .string x1, .string y1]] W fun e w' => e = .returned (.bool true) ∧ RB w.heap.size false g n1 n2 x1 y1 x2 y2 w' ∧ Below w.heap.size w w' := fun W hW => by
    obtain ⟨hr, hb⟩ := run_boxes w false g n1 n2 x1 y1 x2 y2 W hW
    refine (V1.out W (HT.out.below hb)).mono ?_
    rintro e w' ⟨rfl, hb2⟩
    exact ⟨rfl, hr.below hb2, hb.trans (hb2.mono hb.size)⟩
  have HP1 := Lib.hid hp1
  clear hTab hp1
  go_enter Tryz.func42, Tryz.ntmps42
  go_wp2_with (first
    | (go_at_call 19; with_reducible refine (HP1.out _ rfl).mono ?_; rintro e w1 ⟨rfl, hr, hb⟩; obtain ⟨o0, o1⟩ := hr.op; obtain ⟨a0, a1, a2, _, _, _⟩ := box3 hr.a; obtain ⟨b0, b1, b2, _, _, _⟩ := box3 hr.b; obtain ⟨k0, k1, k2, f0, f1, f2⟩ := box3 hr.r; have HR := Lib.hid hr; have HB := Lib.hid hb; clear hr hb)
    | (go_at_call 19; with_reducible refine (V2.out _ (HT.out.below HB.out)).mono ?_; rintro e w2 ⟨rfl, hb2⟩; have hb := HB.out.trans (hb2.mono HB.out.size); have hr := HR.out.below hb2; clear hb2; obtain ⟨o0, o1⟩ := hr.op; obtain ⟨a0, a1, a2, _, _, _⟩ := box3 hr.a; obtain ⟨b0, b1, b2, _, _, _⟩ := box3 hr.b; obtain ⟨k0, k1, k2, f0, f1, f2⟩ := box3 hr.r; have HR := Lib.hid hr; have HB := Lib.hid hb; clear hr hb))
  refine bodyPost_ret (results_ct rfl _ _ (w.heap.size + 3) 31 _ (0, 0) _ rfl (set3 HR.out.r _ _ _) Tryz.underlying31 rfl (by kernel_rfl)) rfl ?_
  exact ⟨rfl, ((HB.out.setCell (p := ⟨w.heap.size + 3, 0, none⟩) (by show _ ≤ w.heap.size + 3; omega) _).setCell (p := ⟨w.heap.size + 3, 1, none⟩) (by show _ ≤ w.heap.size + 3; omega) _).setCell (p := ⟨w.heap.size + 3, 2, none⟩) (by show _ ≤ w.heap.size + 3; omega) _⟩
set_option maxRecDepth 100000 in
set_option maxHeartbeats 1000000 in
theorem run_long_false2 (g : Nat) (n1 n2 : Bool) (x1 y1 x2 y2 : ByteArray) (w : World) (hTab : Tab w) (hv1 : Sp.vld n1 x1 y1 = true) (hv2 : Sp.vld n2 x2 y2 = true) (l0 : ¬ 140 < x1.size) (l1 : ¬ 140 < y1.size) (l2 : 140 < x2.size) :
    Calls Tryz.prog 42 #[.agg #[.bool false, .func (.func g) #[] #[]], .agg #[.bool n1, .string x1, .string y1], .agg #[.bool n2, .string x2, .string y2]] w fun e w' => e = .returned (.tuple #[.agg #[.bool false, .string ⟨#[]⟩, .string ⟨#[]⟩], .int .i64 2]) ∧ Below w.heap.size w w' := by
  have HT := Lib.hid hTab
  have V1 := Lib.hid (fun w hT => ratio_Valid.calls 1 n1 x1 y1 true w hT (by rw [valid_val, hv1]))
  have V2 := Lib.hid (fun w hT => ratio_Valid.calls 1 n2 x2 y2 true w hT (by rw [valid_val, hv2]))
  have m0 : ¬ (140 : Int) < (x1.size : Int) := by omega
  have m1 : ¬ (140 : Int) < (y1.size : Int) := by omega
  have m2 : (140 : Int) < (x2.size : Int) := by omega
  clear hv1 hv2
  have hp1 : ∀ W : World, W = (((w.alloc (.cells #[.bool false, .func (.func g) #[] #[]] 53)).alloc (.cells #[.bool n1, .string x1, .string y1] 31)).alloc (.cells #[.bool n2, .string x2, .string y2] 31)).alloc (.cells #[.bool false, .string ⟨#[]⟩, .string ⟨#[]⟩] 31) →
      Calls Tryz.prog 19 #[.agg #[.bool n1, .string x1, .string y1]] W fun e w' => e = .returned (.bool true) ∧ RB w.heap.size false g n1 n2 x1 y1 x2 y2 w' ∧ Below w.heap.size w w' := fun W hW => by
    obtain ⟨hr, hb⟩ := run_boxes w false g n1 n2 x1 y1 x2 y2 W hW
    refine (V1.out W (HT.out.below hb)).mono ?_
    rintro e w' ⟨rfl, hb2⟩
    exact ⟨rfl, hr.below hb2, hb.trans (hb2.mono hb.size)⟩
  have HP1 := Lib.hid hp1
  clear hTab hp1
  go_enter Tryz.func42, Tryz.ntmps42
  go_wp2_with (first
    | (go_at_call 19; with_reducible refine (HP1.out _ rfl).mono ?_; rintro e w1 ⟨rfl, hr, hb⟩; obtain ⟨o0, o1⟩ := hr.op; obtain ⟨a0, a1, a2, _, _, _⟩ := box3 hr.a; obtain ⟨b0, b1, b2, _, _, _⟩ := box3 hr.b; obtain ⟨k0, k1, k2, f0, f1, f2⟩ := box3 hr.r; have HR := Lib.hid hr; have HB := Lib.hid hb; clear hr hb)
    | (go_at_call 19; with_reducible refine (V2.out _ (HT.out.below HB.out)).mono ?_; rintro e w2 ⟨rfl, hb2⟩; have hb := HB.out.trans (hb2.mono HB.out.size); have hr := HR.out.below hb2; clear hb2; obtain ⟨o0, o1⟩ := hr.op; obtain ⟨a0, a1, a2, _, _, _⟩ := box3 hr.a; obtain ⟨b0, b1, b2, _, _, _⟩ := box3 hr.b; obtain ⟨k0, k1, k2, f0, f1, f2⟩ := box3 hr.r; have HR := Lib.hid hr; have HB := Lib.hid hb; clear hr hb))
  refine bodyPost_ret (results_ct rfl _ _ (w.heap.size + 3) 31 _ (0, 0) _ rfl (set3 HR.out.r _ _ _) Tryz.underlying31 rfl (by kernel_rfl)) rfl ?_
  exact ⟨rfl, ((HB.out.setCell (p := ⟨w.heap.size + 3, 0, none⟩) (by show _ ≤ w.heap.size + 3; omega) _).setCell (p := ⟨w.heap.size + 3, 1, none⟩) (by show _ ≤ w.heap.size + 3; omega) _).setCell (p := ⟨w.heap.size + 3, 2, none⟩) (by show _ ≤ w.heap.size + 3; omega) _⟩
end Go.Proofs.YtmkanjcehhbmlaaGreatDoor.Pr
end

section
namespace Go.Proofs.YtmkanjcehhbmlaaGreatDoor.Pr
set_option linter.unusedSimpArgs false
set_option linter.unusedVariables false
set_option exponentiation.threshold 400
open Go.RowKit Go.Shelf Go.Proofs.YtmkanjcehhbmlaaGreatDoorW.PrintWords Go.Proofs.YtmkanjcehhbmlaaGreatDoorW.PrintLast Go.Proofs.YtmkanjcehhbmlaaGreatDoorW.PrintMore
set_option maxRecDepth 100000 in
set_option maxHeartbeats 1000000 in
theorem run_long_false3 (g : Nat) (n1 n2 : Bool) (x1 y1 x2 y2 : ByteArray) (w : World) (hTab : Tab w) (hv1 : Sp.vld n1 x1 y1 = true) (hv2 : Sp.vld n2 x2 y2 = true) (l0 : ¬ 140 < x1.size) (l1 : ¬ 140 < y1.size) (l2 : ¬ 140 < x2.size) (l3 : 140 < y2.size) :
    Calls Tryz.prog 42 #[.agg #[.bool false, .func (.func g) #[] #[]], .agg #[.bool n1, .string x1, .string y1], .agg #[.bool n2, .string x2, .string y2]] w fun e w' => e = .returned (.tuple #[.agg #[.bool false, .string ⟨#[]⟩, .string ⟨#[]⟩], .int .i64 2]) ∧ Below w.heap.size w w' := by
  have HT := Lib.hid hTab
  have V1 := Lib.hid (fun w hT => ratio_Valid.calls 1 n1 x1 y1 true w hT (by rw [valid_val, hv1]))
  have V2 := Lib.hid (fun w hT => ratio_Valid.calls 1 n2 x2 y2 true w hT (by rw [valid_val, hv2]))
  have m0 : ¬ (140 : Int) < (x1.size : Int) := by omega
  have m1 : ¬ (140 : Int) < (y1.size : Int) := by omega
  have m2 : ¬ (140 : Int) < (x2.size : Int) := by omega
  have m3 : (140 : Int) < (y2.size : Int) := by omega
  clear hv1 hv2
  have hp1 : ∀ W : World, W = (((w.alloc (.cells #[.bool false, .func (.func g) #[] #[]] 53)).alloc (.cells #[.bool n1, .string x1, .string y1] 31)).alloc (.cells #[.bool n2, .string x2, .string y2] 31)).alloc (.cells #[.bool false, .string ⟨#[]⟩, .string ⟨#[]⟩] 31) →
      Calls Tryz.prog 19 #[.agg #[.bool n1, .string x1, .string y1]] W fun e w' => e = .returned (.bool true) ∧ RB w.heap.size false g n1 n2 x1 y1 x2 y2 w' ∧ Below w.heap.size w w' := fun W hW => by
    obtain ⟨hr, hb⟩ := run_boxes w false g n1 n2 x1 y1 x2 y2 W hW
    refine (V1.out W (HT.out.below hb)).mono ?_
    rintro e w' ⟨rfl, hb2⟩
    exact ⟨rfl, hr.below hb2, hb.trans (hb2.mono hb.size)⟩
  have HP1 := Lib.hid hp1
  clear hTab hp1
  go_enter Tryz.func42, Tryz.ntmps42
  go_wp2_with (first
    | (go_at_call 19; with_reducible refine (HP1.out _ rfl).mono ?_; rintro e w1 ⟨rfl, hr, hb⟩; obtain ⟨o0, o1⟩ := hr.op; obtain ⟨a0, a1, a2, _, _, _⟩ := box3 hr.a; obtain ⟨b0, b1, b2, _, _, _⟩ := box3 hr.b; obtain ⟨k0, k1, k2, f0, f1, f2⟩ := box3 hr.r; have HR := Lib.hid hr; have HB := Lib.hid hb; clear hr hb)
    | (go_at_call 19; with_reducible refine (V2.out _ (HT.out.below HB.out)).mono ?_; rintro e w2 ⟨rfl, hb2⟩; have hb := HB.out.trans (hb2.mono HB.out.size); have hr := HR.out.below hb2; clear hb2; obtain ⟨o0, o1⟩ := hr.op; obtain ⟨a0, a1, a2, _, _, _⟩ := box3 hr.a; obtain ⟨b0, b1, b2, _, _, _⟩ := box3 hr.b; obtain ⟨k0, k1, k2, f0, f1, f2⟩ := box3 hr.r; have HR := Lib.hid hr; have HB := Lib.hid hb; clear hr hb))
  refine bodyPost_ret (results_ct rfl _ _ (w.heap.size + 3) 31 _ (0, 0) _ rfl (set3 HR.out.r _ _ _) Tryz.underlying31 rfl (by kernel_rfl)) rfl ?_
  exact ⟨rfl, ((HB.out.setCell (p := ⟨w.heap.size + 3, 0, none⟩) (by show _ ≤ w.heap.size + 3; omega) _).setCell (p := ⟨w.heap.size + 3, 1, none⟩) (by show _ ≤ w.heap.size + 3; omega) _).setCell (p := ⟨w.heap.size + 3, 2, none⟩) (by show _ ≤ w.heap.size + 3; omega) _⟩
set_option maxRecDepth 100000 in
set_option maxHeartbeats 1000000 in
theorem run_go_false (g : Nat) (n1 n2 : Bool) (x1 y1 x2 y2 : ByteArray) (w : World) (hTab : Tab w) (q0 : Bool) (q1 q2 : ByteArray) (q3 : Int) (eg : ∀ args w, (callFunc g args).run Tryz.prog w = .ok (.enter g args) w) (hop : ∀ W, Tab W → Calls Tryz.prog g #[.agg #[.bool n1, .string x1, .string y1], .agg #[.bool n2, .string x2, .string y2]] W fun e w' => e = .returned (.tuple #[.agg #[.bool q0, .string q1, .string q2], .int .i64 q3]) ∧ Below W.heap.size W w') (hv1 : Sp.vld n1 x1 y1 = true) (hv2 : Sp.vld n2 x2 y2 = true) (l0 : ¬ 140 < x1.size) (l1 : ¬ 140 < y1.size) (l2 : ¬ 140 < x2.size) (l3 : ¬ 140 < y2.size) :
    Calls Tryz.prog 42 #[.agg #[.bool false, .func (.func g) #[] #[]], .agg #[.bool n1, .string x1, .string y1], .agg #[.bool n2, .string x2, .string y2]] w fun e w' => e = .returned (.tuple #[.agg #[.bool q0, .string q1, .string q2], .int .i64 q3]) ∧ Below w.heap.size w w' := by
  have HT := Lib.hid hTab
  have V1 := Lib.hid (fun w hT => ratio_Valid.calls 1 n1 x1 y1 true w hT (by rw [valid_val, hv1]))
  have V2 := Lib.hid (fun w hT => ratio_Valid.calls 1 n2 x2 y2 true w hT (by rw [valid_val, hv2]))
  have m0 : ¬ (140 : Int) < (x1.size : Int) := by omega
  have m1 : ¬ (140 : Int) < (y1.size : Int) := by omega
  have m2 : ¬ (140 : Int) < (x2.size : Int) := by omega
  have m3 : ¬ (140 : Int) < (y2.size : Int) := by omega
  clear hv1 hv2
  have HOP := Lib.hid hop
  clear hop
  have hp1 : ∀ W : World, W = (((w.alloc (.cells #[.bool false, .func (.func g) #[] #[]] 53)).alloc (.cells #[.bool n1, .string x1, .string y1] 31)).alloc (.cells #[.bool n2, .string x2, .string y2] 31)).alloc (.cells #[.bool false, .string ⟨#[]⟩, .string ⟨#[]⟩] 31) →
      Calls Tryz.prog 19 #[.agg #[.bool n1, .string x1, .string y1]] W fun e w' => e = .returned (.bool true) ∧ RB w.heap.size false g n1 n2 x1 y1 x2 y2 w' ∧ Below w.heap.size w w' := fun W hW => by
    obtain ⟨hr, hb⟩ := run_boxes w false g n1 n2 x1 y1 x2 y2 W hW
    refine (V1.out W (HT.out.below hb)).mono ?_
    rintro e w' ⟨rfl, hb2⟩
    exact ⟨rfl, hr.below hb2, hb.trans (hb2.mono hb.size)⟩
  have HP1 := Lib.hid hp1
  clear hTab hp1
  go_enter Tryz.func42, Tryz.ntmps42
  go_wp2_with (first
    | (go_at_call 19; with_reducible refine (HP1.out _ rfl).mono ?_; rintro e w1 ⟨rfl, hr, hb⟩; obtain ⟨o0, o1⟩ := hr.op; obtain ⟨a0, a1, a2, _, _, _⟩ := box3 hr.a; obtain ⟨b0, b1, b2, _, _, _⟩ := box3 hr.b; obtain ⟨k0, k1, k2, f0, f1, f2⟩ := box3 hr.r; have HR := Lib.hid hr; have HB := Lib.hid hb; clear hr hb)
    | (go_at_call 19; with_reducible refine (V2.out _ (HT.out.below HB.out)).mono ?_; rintro e w2 ⟨rfl, hb2⟩; have hb := HB.out.trans (hb2.mono HB.out.size); have hr := HR.out.below hb2; clear hb2; obtain ⟨o0, o1⟩ := hr.op; obtain ⟨a0, a1, a2, _, _, _⟩ := box3 hr.a; obtain ⟨b0, b1, b2, _, _, _⟩ := box3 hr.b; obtain ⟨k0, k1, k2, f0, f1, f2⟩ := box3 hr.r; have HR := Lib.hid hr; have HB := Lib.hid hb; clear hr hb))
  go_wp2_with fail
  refine (HOP.out _ (HT.out.below HB.out)).mono ?_
  rintro e w3 ⟨rfl, hb3⟩
  have hb := HB.out.trans (hb3.mono HB.out.size)
  have hr := HR.out.below hb3
  clear hb3
  obtain ⟨k0, k1, k2, f0, f1, f2⟩ := box3 hr.r
  have HR := Lib.hid hr
  have HB := Lib.hid hb
  clear hr hb
  go_wp2
  refine bodyPost_ret (results_ct rfl _ _ (w.heap.size + 3) 31 _ (0, 0) _ rfl (set3 HR.out.r _ _ _) Tryz.underlying31 rfl (by kernel_rfl)) rfl ?_
  exact ⟨rfl, ((HB.out.setCell (p := ⟨w.heap.size + 3, 0, none⟩) (by show _ ≤ w.heap.size + 3; omega) _).setCell (p := ⟨w.heap.size + 3, 1, none⟩) (by show _ ≤ w.heap.size + 3; omega) _).setCell (p := ⟨w.heap.size + 3, 2, none⟩) (by show _ ≤ w.heap.size + 3; omega) _⟩
end Go.Proofs.YtmkanjcehhbmlaaGreatDoor.Pr
end
