/- The contract of ratio.products. -/
import Derived.Test.YtmkanjcehhbmlaaGreatDoorDBuild
import Derived.Test.YtmkanjcehhbmlaaGreatDoorDFmt
import Derived.Test.YtmkanjcehhbmlaaGreatDoorDGN
import Derived.Test.YtmkanjcehhbmlaaGreatDoorDGN2
import Derived.Test.YtmkanjcehhbmlaaGreatDoorDGN3
import Derived.Test.YtmkanjcehhbmlaaGreatDoorDGW
import Derived.Test.YtmkanjcehhbmlaaGreatDoorDGW2
import Derived.Test.YtmkanjcehhbmlaaGreatDoorDNatApply
import Derived.Test.YtmkanjcehhbmlaaGreatDoorDNatS
import Derived.Test.YtmkanjcehhbmlaaGreatDoorDNum
import Derived.Test.YtmkanjcehhbmlaaGreatDoorDNumAdd
import Derived.Test.YtmkanjcehhbmlaaGreatDoorDNumCmp
import Derived.Test.YtmkanjcehhbmlaaGreatDoorDNumDiv
import Derived.Test.YtmkanjcehhbmlaaGreatDoorDNumIs
import Derived.Test.YtmkanjcehhbmlaaGreatDoorDNumMul
import Derived.Test.YtmkanjcehhbmlaaGreatDoorDNumOps
import Derived.Test.YtmkanjcehhbmlaaGreatDoorDNumParse
import Derived.Test.YtmkanjcehhbmlaaGreatDoorDNumText
import Derived.Test.YtmkanjcehhbmlaaGreatDoorDNumVal
import Derived.Test.YtmkanjcehhbmlaaGreatDoorDPrA4
import Derived.Test.YtmkanjcehhbmlaaGreatDoorDPrA5
import Derived.Test.YtmkanjcehhbmlaaGreatDoorDShelf
import Derived.Test.YtmkanjcehhbmlaaGreatDoorDSpec
import Derived.Test.YtmkanjcehhbmlaaGreatDoorDTab
import Derived.Test.YtmkanjcehhbmlaaGreatDoorDWLast
set_option linter.all false
section
namespace Go.Proofs.YtmkanjcehhbmlaaGreatDoor.Pr
set_option linter.unusedSimpArgs false
set_option linter.unusedVariables false
open Go.RowKit Go.Shelf Go.Proofs.YtmkanjcehhbmlaaGreatDoorW.PrintWords Go.Proofs.YtmkanjcehhbmlaaGreatDoorW.PrintLast Go.Proofs.YtmkanjcehhbmlaaGreatDoorW.PrintMore
theorem infoStr : (Tryz.prog.info? 9).map (fun i => (i.zero, i.size, i.bytes)) = some (some (.string ⟨#[]⟩), 1, 16) := by kernel_rfl
/-- The text of a product (empty if it cannot be told). -/
def mulT (p : ByteArray × ByteArray) : ByteArray := (Sp.natOp p.1 p.2 fun x y => Sp.lim (x * y)).1
def prs (ps : List (ByteArray × ByteArray)) (j : Nat) : ByteArray × ByteArray := ps.getD j (⟨#[]⟩, ⟨#[]⟩)
set_option maxRecDepth 100000 in
set_option maxHeartbeats 2000000 in
theorem products_calls (B : Nat) (ps : List (ByteArray × ByteArray)) (w : World) (hTab : Tab w) (hB : B < w.heap.size) (hc : ∀ j, j < ps.length → w.cell? ⟨B, j * 2, none⟩ = some (.string (prs ps j).1) ∧ w.cell? ⟨B, j * 2 + 1, none⟩ = some (.string (prs ps j).2)) (hl : ps.length ≤ 1000) :
    Calls Tryz.prog 62 #[.slice (some ⟨B, 0, none⟩) ps.length ps.length] w fun e w' => ∃ v : Value, e = .returned v ∧ Kd.string.R 9 w' w.heap.size (fun k => w.heap.size ≤ k) v (ps.map mulT) ∧ Below w.heap.size w w' := by
  have HC := Lib.hid hc
  have HT := Lib.hid hTab
  clear hc hTab
  go_enter Tryz.func62, Tryz.ntmps62
  go_wp2
  go_loopw [3, 10] (fun v i wr => ∃ k : Nat, k ≤ ps.length ∧ i = .int .i64 k ∧ Kd.string.R 9 wr w.heap.size (fun k => w.heap.size ≤ k) v ((ps.take k).map mulT) ∧ Below w.heap.size w wr)
    (fun v i _ => (ps.length - intOf i).toNat)
  case atStart => exact ⟨0, Nat.zero_le _, rfl, Kd.R_nil _ _ _ _ _, Below.refl _ _⟩
  case round =>
    obtain ⟨k, hk, rfl, hR, hW⟩ := hrel
    have HR := Lib.hid hR
    have HW := Lib.hid hW
    clear hR hW
    by_cases hlt : k < ps.length
    · obtain ⟨h1, h2⟩ := HC.out k hlt
      obtain ⟨x, y, hxy⟩ : ∃ x y, prs ps k = (x, y) := ⟨_, _, rfl⟩
      rw [hxy] at h1 h2
      have c1 := (HW.out.cell (p := ⟨B, k * 2, none⟩) hB).trans h1
      have c2 := (HW.out.cell (p := ⟨B, k * 2 + 1, none⟩) hB).trans h2
      dsimp only at c1 c2
      obtain ⟨r1, r2, hr⟩ : ∃ r1 r2, natural_Mul.f x y = some (r1, r2) := ⟨_, _, rfl⟩
      have HM := Lib.hid (fun w hT => natural_Mul.calls x y r1 r2 w hT hr)
      have HX := Lib.hid hxy
      have HRR := Lib.hid hr
      clear hxy hr h1 h2
      have hsucc : (ps.take k).map mulT ++ [r1] = (ps.take (k + 1)).map mulT := by
        rw [List.take_succ_eq_append_getElem hlt, List.map_append]
        congr 1
        have h3 : prs ps k = ps[k] := by unfold prs; rw [List.getD_eq_getElem?_getD, List.getElem?_eq_getElem hlt]; rfl
        have h4 := HRR.out
        unfold natural_Mul.f at h4
        have h5 := Option.some.inj h4
        rw [List.map_singleton, ← h3, HX.out]
        unfold mulT
        rw [h5]
      have HS := Lib.hid hsucc
      clear hsucc
      go_wp2_with (first
        | (go_at_call 88; refine (HM.out _ (HT.out.below (HW.out.alloc HW.out.size _))).mono ?_; rintro e w1 ⟨rfl, hb1⟩; have hbw1 := ((Below.refl _ wr).alloc (Nat.le_refl _) _).trans (hb1.mono (by simp)))
        | (at_builtin; refine Kd.R_append Kd.string (w0 := w) w.heap.size rfl (.tmp 22) (.tmp 24) 64 9 (.string ⟨#[]⟩) 16 rfl Tryz.underlying64 infoStr rfl (by decide) (by decide) u3 ((ps.take k).map mulT) r1 [.string r1] (fun k => w.heap.size ≤ k) (fun _ => False) rfl rfl rfl (fun _ h => h.elim) (fun j hj => Nat.le_trans (Nat.le_trans HW.out.size hbw1.size) hj) (Kd.R_below HR.out hbw1) (HW.out.trans (hbw1.mono HW.out.size)) (Nat.le_trans HW.out.size hbw1.size) (by rw [List.length_map, List.length_take]; omega) ?_; intro v1 w2 hR2 hB2 _ _))
      go_roundw
      case rel => exact ⟨k + 1, hlt, rfl, by rw [← HS.out]; exact hR2, hB2⟩
      case measure => simp only [intOf]; omega
    · obtain rfl : k = ps.length := by omega
      go_wp2
      go_ret
      refine ⟨_, rfl, ?_, HW.out⟩
      have := HR.out
      rwa [List.take_length] at this
end Go.Proofs.YtmkanjcehhbmlaaGreatDoor.Pr
end
