/- ratio.Sub's closure. -/
import Derived.Deep.RegionHeld3
import Derived.Test.YtmkanjcehhbmlaaGreatDoorRBuild
import Derived.Test.YtmkanjcehhbmlaaGreatDoorRFmt
import Derived.Test.YtmkanjcehhbmlaaGreatDoorRGN
import Derived.Test.YtmkanjcehhbmlaaGreatDoorRGN2
import Derived.Test.YtmkanjcehhbmlaaGreatDoorRGN3
import Derived.Test.YtmkanjcehhbmlaaGreatDoorRGW
import Derived.Test.YtmkanjcehhbmlaaGreatDoorRGW2
import Derived.Test.YtmkanjcehhbmlaaGreatDoorRNatApply
import Derived.Test.YtmkanjcehhbmlaaGreatDoorRNatS
import Derived.Test.YtmkanjcehhbmlaaGreatDoorRNum
import Derived.Test.YtmkanjcehhbmlaaGreatDoorRNumAdd
import Derived.Test.YtmkanjcehhbmlaaGreatDoorRNumCmp
import Derived.Test.YtmkanjcehhbmlaaGreatDoorRNumDiv
import Derived.Test.YtmkanjcehhbmlaaGreatDoorRNumIs
import Derived.Test.YtmkanjcehhbmlaaGreatDoorRNumMul
import Derived.Test.YtmkanjcehhbmlaaGreatDoorRNumOps
import Derived.Test.YtmkanjcehhbmlaaGreatDoorRNumParse
import Derived.Test.YtmkanjcehhbmlaaGreatDoorRNumText
import Derived.Test.YtmkanjcehhbmlaaGreatDoorRNumVal
import Derived.Test.YtmkanjcehhbmlaaGreatDoorRPrA1
import Derived.Test.YtmkanjcehhbmlaaGreatDoorRPrA11
import Derived.Test.YtmkanjcehhbmlaaGreatDoorRPrA4
import Derived.Test.YtmkanjcehhbmlaaGreatDoorRPrA5
import Derived.Test.YtmkanjcehhbmlaaGreatDoorRPrB1
import Derived.Test.YtmkanjcehhbmlaaGreatDoorRPrB2
import Derived.Test.YtmkanjcehhbmlaaGreatDoorRRatOps
import Derived.Test.YtmkanjcehhbmlaaGreatDoorRRatProd
import Derived.Test.YtmkanjcehhbmlaaGreatDoorRRatVal
import Derived.Test.YtmkanjcehhbmlaaGreatDoorRRatWrap
import Derived.Test.YtmkanjcehhbmlaaGreatDoorRShelf
import Derived.Test.YtmkanjcehhbmlaaGreatDoorRSpec
import Derived.Test.YtmkanjcehhbmlaaGreatDoorRTab
import Derived.Test.YtmkanjcehhbmlaaGreatDoorRWLast
set_option linter.all false
section
namespace Go.Proofs.YtmkanjcehhbmlaaGreatDoor.Pr
set_option linter.unusedSimpArgs false
set_option linter.unusedVariables false
open Go.RowKit Go.Shelf Go.Proofs.YtmkanjcehhbmlaaGreatDoorW.PrintWords Go.Proofs.YtmkanjcehhbmlaaGreatDoorW.PrintLast Go.Proofs.YtmkanjcehhbmlaaGreatDoorW.PrintMore
set_option maxRecDepth 100000 in
set_option maxHeartbeats 2000000 in
theorem wrap_sub1 (n1 n2 m2 : Bool) (x1 y1 x2 y2 : ByteArray) (q0 : Bool) (q1 q2 : ByteArray) (q3 : Int) (w : World) (hTab : Tab w) (ho : ratio_opposite.f n2 x2 y2 = some (m2, x2, y2))
    (hc : ∀ W, Tab W → Calls Tryz.prog 43 #[.agg #[.bool n1, .string x1, .string y1], .agg #[.bool m2, .string x2, .string y2]] W fun e w' => e = .returned (.tuple #[.agg #[.bool q0, .string q1, .string q2], .int .i64 q3]) ∧ Below W.heap.size W w') :
    Calls Tryz.prog 47 #[.agg #[.bool n1, .string x1, .string y1], .agg #[.bool n2, .string x2, .string y2]] w fun e w' => e = .returned (.tuple #[.agg #[.bool q0, .string q1, .string q2], .int .i64 q3]) ∧ Below w.heap.size w w' := by
  have HO := Lib.hid (fun w => ratio_opposite.calls n2 x2 y2 m2 x2 y2 w ho)
  have HC := Lib.hid hc
  have HT := Lib.hid hTab
  clear ho hc hTab
  go_enter Tryz.func47, Tryz.ntmps47
  go_wp2_with fail
  obtain ⟨w1, hw1⟩ : ∃ w1, ((w.alloc (.cells #[.bool n1, .string x1, .string y1] 31)).alloc (.cells #[.bool n2, .string x2, .string y2] 31)).alloc (.cells #[.bool false, .string ⟨#[]⟩, .string ⟨#[]⟩] 31) = w1 := ⟨_, rfl⟩
  obtain ⟨g0, g1, g2, hb⟩ := three w _ _ _ w1 hw1.symm
  rw [hw1]
  clear hw1
  have hN0 : w.heap.size < w1.heap.size := (Array.getElem?_eq_some_iff.1 g0).1
  have hN1 : w.heap.size + 1 < w1.heap.size := (Array.getElem?_eq_some_iff.1 g1).1
  have hN2 : w.heap.size + 1 + 1 < w1.heap.size := (Array.getElem?_eq_some_iff.1 g2).1
  have hS : ∀ W, Below w1.heap.size w1 W → ((W.cell? ⟨w.heap.size, 0, none⟩ = some (.bool n1) ∧ W.cell? ⟨w.heap.size, 1, none⟩ = some (.string x1) ∧ W.cell? ⟨w.heap.size, 2, none⟩ = some (.string y1)) ∧ (W.cell? ⟨w.heap.size + 1, 0, none⟩ = some (.bool n2) ∧ W.cell? ⟨w.heap.size + 1, 1, none⟩ = some (.string x2) ∧ W.cell? ⟨w.heap.size + 1, 2, none⟩ = some (.string y2))) ∧ Below w.heap.size w W := fun W hW => by
    obtain ⟨a0, a1, a2, _⟩ := box3 ((hW.block _ hN0).trans g0)
    obtain ⟨b0, b1, b2, _⟩ := box3 ((hW.block _ hN1).trans g1)
    exact ⟨⟨⟨a0, a1, a2⟩, b0, b1, b2⟩, hb.trans (hW.mono hb.size)⟩
  have hT : ∀ W0 : World, ∀ v0 v1 v2, Below w1.heap.size w1 W0 → (fun W => ((W.cell? ⟨w.heap.size, 0, none⟩ = some (.bool n1) ∧ W.cell? ⟨w.heap.size, 1, none⟩ = some (.string x1) ∧ W.cell? ⟨w.heap.size, 2, none⟩ = some (.string y1)) ∧ (W.cell? ⟨w.heap.size + 1, 0, none⟩ = some (.bool n2) ∧ W.cell? ⟨w.heap.size + 1, 1, none⟩ = some (.string x2) ∧ W.cell? ⟨w.heap.size + 1, 2, none⟩ = some (.string y2))) ∧ Below w.heap.size w W) (((W0.setCell ⟨w.heap.size + 1 + 1, 0, none⟩ v0).setCell ⟨w.heap.size + 1 + 1, 1, none⟩ v1).setCell ⟨w.heap.size + 1 + 1, 2, none⟩ v2) := fun W0 v0 v1 v2 hW0 => by
    obtain ⟨⟨⟨s1, s2, s3⟩, s4, s5, s6⟩, s7⟩ := hS W0 hW0
    have key : ∀ (p : Addr) u, p.block ≠ w.heap.size + 1 + 1 → W0.cell? p = some u → (((W0.setCell ⟨w.heap.size + 1 + 1, 0, none⟩ v0).setCell ⟨w.heap.size + 1 + 1, 1, none⟩ v1).setCell ⟨w.heap.size + 1 + 1, 2, none⟩ v2).cell? p = some u := fun p u hp hu =>
      (World.cell?_of_block (w := W0) (a := p) ((Below.heap_setCell _ _ _ _ hp).trans ((Below.heap_setCell _ _ _ _ hp).trans (Below.heap_setCell _ _ _ _ hp)))).trans hu
    exact ⟨⟨⟨key _ _ (by show w.heap.size ≠ _; omega) s1, key _ _ (by show w.heap.size ≠ _; omega) s2, key _ _ (by show w.heap.size ≠ _; omega) s3⟩, key _ _ (by show w.heap.size + 1 ≠ _; omega) s4, key _ _ (by show w.heap.size + 1 ≠ _; omega) s5, key _ _ (by show w.heap.size + 1 ≠ _; omega) s6⟩, ((s7.setCell (p := ⟨w.heap.size + 1 + 1, 0, none⟩) (by show _ ≤ w.heap.size + 1 + 1; omega) _).setCell (p := ⟨w.heap.size + 1 + 1, 1, none⟩) (by show _ ≤ w.heap.size + 1 + 1; omega) _).setCell (p := ⟨w.heap.size + 1 + 1, 2, none⟩) (by show _ ≤ w.heap.size + 1 + 1; omega) _⟩
  have HS := Lib.hid hS
  have HTT := Lib.hid hT
  have G2 := Lib.hid g2
  clear hS hT g0 g1 g2 hb
  go_region_held3 (fun W => ((W.cell? ⟨w.heap.size, 0, none⟩ = some (.bool n1) ∧ W.cell? ⟨w.heap.size, 1, none⟩ = some (.string x1) ∧ W.cell? ⟨w.heap.size, 2, none⟩ = some (.string y1)) ∧ (W.cell? ⟨w.heap.size + 1, 0, none⟩ = some (.bool n2) ∧ W.cell? ⟨w.heap.size + 1, 1, none⟩ = some (.string x2) ∧ W.cell? ⟨w.heap.size + 1, 2, none⟩ = some (.string y2))) ∧ Below w.heap.size w W)
    (first
      | exact HS.out _ (Below.refl _ w1).drew
      | exact HTT.out w3 _ _ _ hb13
      | exact HS.out _ hb13
      | exact HS.out _ hb12)
    (first
      | (go_at_call 48; with_reducible refine (HO.out _).mono ?_; rintro e w2 ⟨rfl, hb2⟩; have hb12 : Below w1.heap.size w1 w2 := ((Below.refl _ w1).drew).trans (hb2.mono (Nat.le_refl _)))
      | (go_at_call 43; with_reducible refine (HC.out _ (HT.out.below (HS.out _ hb12).2)).mono ?_; rintro e w3 ⟨rfl, hb3⟩; have hb13 : Below w1.heap.size w1 w3 := hb12.trans (hb3.mono hb12.size); have hg2 := box3 ((hb13.block _ hN2).trans G2.out); obtain ⟨k0, k1, k2, f0, f1, f2⟩ := hg2))
  go_wp2
  refine bodyPost_ret (results_ct rfl _ _ (w.heap.size + 1 + 1) 31 _ (0, 0) _ rfl (set3 ((hb13.block _ hN2).trans G2.out) _ _ _) Tryz.underlying31 rfl (by kernel_rfl)) rfl ?_
  exact ⟨rfl, (HTT.out w3 _ _ _ hb13).2⟩
end Go.Proofs.YtmkanjcehhbmlaaGreatDoor.Pr
end
