/- linear.Solve, walked: good systems of at most 8 unknowns. -/
import Derived.BigRegion
import Derived.Test.YtmkanjcehhbmlaaGreatDoorDBuild
import Derived.Test.YtmkanjcehhbmlaaGreatDoorDFmt
import Derived.Test.YtmkanjcehhbmlaaGreatDoorDGL1
import Derived.Test.YtmkanjcehhbmlaaGreatDoorDGL2
import Derived.Test.YtmkanjcehhbmlaaGreatDoorDGN
import Derived.Test.YtmkanjcehhbmlaaGreatDoorDGN2
import Derived.Test.YtmkanjcehhbmlaaGreatDoorDGN3
import Derived.Test.YtmkanjcehhbmlaaGreatDoorDGRR
import Derived.Test.YtmkanjcehhbmlaaGreatDoorDGRS
import Derived.Test.YtmkanjcehhbmlaaGreatDoorDGW
import Derived.Test.YtmkanjcehhbmlaaGreatDoorDGW2
import Derived.Test.YtmkanjcehhbmlaaGreatDoorDNatApply
import Derived.Test.YtmkanjcehhbmlaaGreatDoorDNatS
import Derived.Test.YtmkanjcehhbmlaaGreatDoorDNum
import Derived.Test.YtmkanjcehhbmlaaGreatDoorDNumAdd
import Derived.Test.YtmkanjcehhbmlaaGreatDoorDNumCmp
import Derived.Test.YtmkanjcehhbmlaaGreatDoorDNumDiv
import Derived.Test.YtmkanjcehhbmlaaGreatDoorDNumIs
import Derived.Test.YtmkanjcehhbmlaaGreatDoorDNumMul
import Derived.Test.YtmkanjcehhbmlaaGreatDoorDNumOps
import Derived.Test.YtmkanjcehhbmlaaGreatDoorDNumParse
import Derived.Test.YtmkanjcehhbmlaaGreatDoorDNumText
import Derived.Test.YtmkanjcehhbmlaaGreatDoorDNumVal
import Derived.Test.YtmkanjcehhbmlaaGreatDoorDPrA1
import Derived.Test.YtmkanjcehhbmlaaGreatDoorDPrA11
import Derived.Test.YtmkanjcehhbmlaaGreatDoorDPrA4
import Derived.Test.YtmkanjcehhbmlaaGreatDoorDPrA5
import Derived.Test.YtmkanjcehhbmlaaGreatDoorDPrB1
import Derived.Test.YtmkanjcehhbmlaaGreatDoorDPrB2
import Derived.Test.YtmkanjcehhbmlaaGreatDoorDRatOps
import Derived.Test.YtmkanjcehhbmlaaGreatDoorDRatProd
import Derived.Test.YtmkanjcehhbmlaaGreatDoorDRatSum
import Derived.Test.YtmkanjcehhbmlaaGreatDoorDRatVal
import Derived.Test.YtmkanjcehhbmlaaGreatDoorDShelf
import Derived.Test.YtmkanjcehhbmlaaGreatDoorDSpec
import Derived.Test.YtmkanjcehhbmlaaGreatDoorDTab
import Derived.Test.YtmkanjcehhbmlaaGreatDoorDWLast
set_option linter.all false
section
namespace Go.Proofs.YtmkanjcehhbmlaaGreatDoor.Pr
set_option linter.unusedSimpArgs false
set_option linter.unusedVariables false
open Go.RowKit Go.Shelf Go.Proofs.YtmkanjcehhbmlaaGreatDoorW.PrintWords Go.Proofs.YtmkanjcehhbmlaaGreatDoorW.PrintLast Go.Proofs.YtmkanjcehhbmlaaGreatDoorW.PrintMore
set_option maxRecDepth 100000 in
set_option maxHeartbeats 1000000 in
theorem solve_main (A0 : Option Addr) (cA : Nat) (l0 : List (List SR)) (A1 : Option Addr) (c1 : Nat) (l1 : List SR) (n : Nat) (As : Nat → Option Addr) (cs : Nat → Nat) (w : World) (hTab : Tab w) (hS : Sys w A0 A1 n l0 l1 As cs) (h8 : n ≤ 8)
    (hv : ∀ W, Below w.heap.size w W → Calls Tryz.prog 23 #[.slice A1 n c1] W fun e w' => e = .returned (.bool true) ∧ Below W.heap.size W w')
    (hc : ∀ W B, Below w.heap.size w W → W.heap[B]? = some (.cells #[.int .i64 n] 3 (0, 0)) → Calls Tryz.prog 24 #[.slice A0 n cA, .func (.func 25) #[] #[.pointer (some ⟨B, 0, none⟩)]] W fun e w' => e = .returned (.bool false) ∧ Below W.heap.size W w')
    (r : List SR × Int) (hr : r = if (solI n n 0 (sysM l0 l1)).2 = 0 then ((List.range n).map fun i => rdS ((solI n n 0 (sysM l0 l1)).1 i) n, 0) else ([], (solI n n 0 (sysM l0 l1)).2)) :
    Calls Tryz.prog 12 #[.slice A0 n cA, .slice A1 n c1] w (SolvePost w r) := by
  have HV := Lib.hid hv
  have HC := Lib.hid hc
  have HS := Lib.hid hS
  have HT := Lib.hid hTab
  have HRES := Lib.hid hr
  have hmkr : ∀ W : World, (Instr.makeSlice 23 (.int .i64 ((n : Int) + 1)) (.int .i64 ((n : Int) + 1))).run Tryz.prog W = .ok (.slice (some ⟨W.heap.size, 0, none⟩) (n + 1) (n + 1)) (W.alloc (.cells (rowC (List.replicate (n + 1) zS)) 31)) := fun W => make_row (n + 1) (by omega) W
  have hmkh := make_hdr n (by omega)
  clear hv hc hS hTab hr
  have hb1 : Hid (Below w.heap.size w (w.alloc (.cells #[.int .i64 n] 3))) := Lib.hid ((Below.refl _ w).alloc (Nat.le_refl _) _)
  have g1 := Lib.hid (World.alloc_heap_new w (.cells #[.int .i64 n] 3))
  have hne : ((n : Int) != (n : Int)) = false := by simp
  have h8' : ¬ ((8 : Int) < (n : Int)) := by omega
  go_enter Tryz.func12, Tryz.ntmps12
  go_wp2_with (first | (go_at_call 23; with_reducible refine (HV.out _ hb1.out).mono ?_; rintro e w1 ⟨rfl, hb⟩; have HB := Lib.hid (hb1.out.trans (hb.mono hb1.out.size)); have G := Lib.hid ((hb.block _ (heap_lt g1.out)).trans g1.out); clear hb) | (go_at_call 24; with_reducible refine (HC.out _ _ HB.out G.out).mono ?_; rintro e w2 ⟨rfl, hb2⟩; have HB2 := Lib.hid (HB.out.trans (hb2.mono HB.out.size)); have G2 := Lib.hid ((hb2.block _ (heap_lt G.out)).trans G.out); have c0 := (cell_of_box _ _ _ _ G2.out).1; clear hb2))
  have hMI : MatI w (w2.alloc (.cells ((List.range n).map fun _ => Value.slice none 0 0).toArray 23)) w.heap.size w2.heap.size n 0 (fun _ => 0) (sysM l0 l1) :=
    ⟨HB2.out.alloc HB2.out.size _, by rw [Below.heap_alloc _ _ _ (heap_lt G2.out)]; exact G2.out, HdrB.congr (hv := fun _ => .slice none 0 0) (World.alloc_heap_new w2 _) (fun j _ => by rw [if_neg (by omega)]), fun j hj => absurd hj (by omega), fun j hj => absurd hj (by omega), fun j l hj => absurd hj (by omega), fun j hj => absurd hj (by omega), fun j hj => absurd hj (by omega), by have := heap_lt G2.out; omega, HB2.out.size, fun j hj => absurd hj (by omega)⟩
  have HMI := Lib.hid hMI
  obtain ⟨HB', hHB⟩ : ∃ HB, w2.heap.size = HB := ⟨_, rfl⟩
  obtain ⟨W0, hW0⟩ : ∃ W0, w2.alloc (.cells ((List.range n).map fun _ => Value.slice none 0 0).toArray 23) = W0 := ⟨_, rfl⟩
  rw [hHB, hW0] at HMI ⊢
  clear hMI G2 c0 HB2 hHB hW0 hb1 g1 HB G hmkh HV HC hne h8' w2 w1
  go_loopw [43] (fun s43 wr => ∃ i : Nat, i ≤ n ∧ s43 = .int .i64 i ∧ ∃ ps, Hid (MatI w wr w.heap.size HB' n i ps (sysM l0 l1)))
    (fun s43 _ => (n - intOf s43).toNat)
  case atStart => exact ⟨0, Nat.zero_le _, rfl, _, HMI⟩
  case round =>
    obtain ⟨i, hi, rfl, ps, HM⟩ := hrel
    by_cases hlt : i < n
    · have nb0 := (cell_of_box _ _ _ _ HM.out.nb).1
      obtain ⟨b, off, rfl, hb0, hcA⟩ := HS.out.hdr (by omega)
      have HCA := Lib.hid (hcA i hlt)
      have HB0 := Lib.hid hb0
      obtain ⟨bb, offb, rfl, hbb, hcB⟩ := rat_cells (xs := l1) (by rw [HS.out.len1]; exact HS.out.rhs) (by rw [HS.out.len1]; omega)
      have HCB := Lib.hid (hcB i (by rw [HS.out.len1]; exact hlt))
      have HBB := Lib.hid hbb
      obtain ⟨ba, offa, hAa, hba, hcR⟩ := rat_cells (xs := l0.getD i []) (by rw [HS.out.len i hlt]; exact HS.out.row i hlt) (by rw [HS.out.len i hlt]; omega)
      have HAA := Lib.hid hAa
      have HBA := Lib.hid hba
      have HCR := Lib.hid hcR
      clear hcA hb0 hcB hbb hAa hba hcR
      obtain ⟨W1, hW1⟩ : ∃ W1, wr.alloc (.cells (rowC (List.replicate (n + 1) zS)) 31) = W1 := ⟨_, rfl⟩
      have hbW1 : Below wr.heap.size wr W1 := by rw [← hW1]; exact (Below.refl _ wr).alloc (Nat.le_refl _) _
      have hh1 : HdrB W1 HB' n _ := (hbW1.block _ (heap_lt HM.out.hb)).trans HM.out.hb
      obtain ⟨h1c, h1f⟩ := hh1.get hlt
      have hP1 : W1.heap[wr.heap.size]? = some (.cells (rowC (List.replicate (n + 1) zS)) 31 (0, 0)) := by rw [← hW1]; exact World.alloc_heap_new wr _
      have HH1 := Lib.hid hh1
      have HP1 := Lib.hid hP1
      have HBW1 := Lib.hid hbW1
      clear hh1 hP1 hbW1
      rw [if_neg (by omega)] at h1c
      go_upto_region 11 with fail
      obtain ⟨W2, hW2⟩ : ∃ W2, W1.setCell ⟨HB', i, none⟩ (.slice (some ⟨wr.heap.size, 0, none⟩) (n + 1) (n + 1)) = W2 := ⟨_, rfl⟩
      rw [hW2]
      have hltP : wr.heap.size < W1.heap.size := heap_lt HP1.out
      have hPH : wr.heap.size ≠ HB' := by have := heap_lt HM.out.hb; omega
      have hPW2 : W2.heap[wr.heap.size]? = some (.cells (rowC (List.replicate (n + 1) zS)) 31 (0, 0)) := by rw [← hW2, Below.heap_setCell _ _ _ _ hPH]; exact HP1.out
      have hHW2 : HdrB W2 HB' n (fun j => if j = i then slv n wr.heap.size else if j < i then slv n (ps j) else .slice none 0 0) := by rw [← hW2]; exact HH1.out.set hlt _
      have hEW2 : Ex HB' wr W2 := by rw [← hW2]; exact (Ex.below HBW1.out).trans (Ex.setCell _ _ _)
      have hBW2 : Below w.heap.size w W2 := HM.out.bel.trans (hEW2.toBelow HM.out.loh HM.out.bel.size)
      have hNW2 : W2.heap[w.heap.size]? = some (.cells #[.int .i64 n] 3 (0, 0)) := (hEW2.block _ (heap_lt HM.out.nb) (fun e => HM.out.hn e.symm)).trans HM.out.nb
      have hlP : w.heap.size ≤ wr.heap.size := HM.out.bel.size
      -- what stays for every world that is W2 but for the new row
      have hst : ∀ W, Ex wr.heap.size W2 W → (W.cell? ⟨w.heap.size, 0, none⟩ = some (.int .i64 n) ∧ W.cell? ⟨HB', i, none⟩ = some (.slice (some ⟨wr.heap.size, 0, none⟩) (n + 1) (n + 1)) ∧ W.cell? ⟨b, off + i, none⟩ = some (.slice (As i) n (cs i)) ∧ W.cell? ⟨bb, offb + i * 3, none⟩ = some (.bool (rdS l1 i).f0) ∧ W.cell? ⟨bb, offb + i * 3 + 1, none⟩ = some (.string (rdS l1 i).f1) ∧ W.cell? ⟨bb, offb + i * 3 + 2, none⟩ = some (.string (rdS l1 i).f2)) ∧ Below w.heap.size w W := fun W hW => by
        have hBW : Below w.heap.size w W := hBW2.trans (hW.toBelow hlP hBW2.size)
        have hH : HdrB W HB' n _ := (hW.block _ (heap_lt hHW2) (fun e => hPH e.symm)).trans hHW2
        have hh := (hH.get hlt).1
        rw [if_pos rfl] at hh
        have hN := (cell_of_box _ _ _ _ ((hW.block _ (heap_lt hNW2) (by have := heap_lt HM.out.nb; omega)).trans hNW2)).1
        have hc1 := HCB.out
        exact ⟨⟨hN, hh, (hBW.cell (p := ⟨b, off + i, none⟩) HB0.out).trans HCA.out, (hBW.cell (p := ⟨bb, offb + i * 3, none⟩) HBB.out).trans hc1.1, (hBW.cell (p := ⟨bb, offb + i * 3 + 1, none⟩) HBB.out).trans hc1.2.1, (hBW.cell (p := ⟨bb, offb + i * 3 + 2, none⟩) HBB.out).trans hc1.2.2⟩, hBW⟩
      have hxl := HS.out.len i hlt
      obtain ⟨x0, hx0⟩ : ∃ x0, l0.getD i [] = x0 := ⟨_, rfl⟩
      rw [hx0] at HCR hxl
      have hsy : sysM l0 l1 i = x0 ++ [rdS l1 i] := by unfold sysM; rw [hx0]
      have hAA := HAA.out
      have HST := Lib.hid hst
      have HPW2 := Lib.hid hPW2
      have HHW2 := Lib.hid hHW2
      have HEW2 := Lib.hid hEW2
      have HSY := Lib.hid hsy
      have HXL := Lib.hid hxl
      have HPH := Lib.hid hPH
      have HX0 := Lib.hid hx0
      have HW2' : Hid (W2.drew.heap = W2.heap) := Lib.hid rfl
      clear hst hPW2 hHW2 hEW2 hBW2 hNW2 hW2 hW1 h1c h1f HH1 HP1 HBW1 hltP hsy hxl hPH nb0 hx0 hlP
      rw [hAA] at HST
      clear hAA
      have HT1 := Lib.hid (HST.out W2 (Ex.refl _ _))
      obtain ⟨vc, W3, hcopy, hrow3, hex3⟩ := copy_row (t3 := 3) (n := n) (c := cs i) HPW2.out HXL.out (fun j hj => by
        obtain ⟨e0, e1, e2⟩ := HCR.out j hj
        exact ⟨((HT1.out.2).cell (p := ⟨ba, offa + j * 3, none⟩) HBA.out).trans e0, ((HT1.out.2).cell (p := ⟨ba, offa + j * 3 + 1, none⟩) HBA.out).trans e1, ((HT1.out.2).cell (p := ⟨ba, offa + j * 3 + 2, none⟩) HBA.out).trans e2⟩)
      have HR3 := Lib.hid hrow3
      have HE3 := Lib.hid hex3
      clear hrow3 hex3
      obtain ⟨q1, q2, q3, _⟩ := HT1.out.1
      go_cut [] (fun wx => Hid (wx.heap[wr.heap.size]? = some (.cells (rowC (x0 ++ [zS])) 31 (0, 0))) ∧ Hid (Ex wr.heap.size W2 wx))
      case first =>
        go_region_with fail
        all_goals (go_wp2_with fail; go_meet; exact ⟨HR3, HE3⟩)
      case rest =>
      obtain ⟨HRC, HEC⟩ := hcut
      clear HR3 HE3 hcopy q1 q2 q3 HT1 W3
      have HT3 := Lib.hid (HST.out wc HEC.out)
      obtain ⟨q1, q2, _, q4, q5, q6⟩ := HT3.out.1
      obtain ⟨d0, d1, d2, f0, f1, f2⟩ := row_cells HRC.out (j := n) (by rw [List.length_append, HXL.out]; simp)
      have hzz : rdS (x0 ++ [zS]) n = zS := by rw [rdS, List.getD_eq_getElem?_getD, List.getElem?_append_right (by rw [HXL.out]; omega), HXL.out, Nat.sub_self]; rfl
      rw [hzz] at d0 d1 d2
      have HZZ := Lib.hid hzz
      clear hzz
      go_upto_region 12 with fail
      have hend : ∀ W4 : World, W4.heap[wr.heap.size]? = some (.cells (rowC (sysM l0 l1 i)) 31 (0, 0)) → Ex wr.heap.size W2 W4 → ∃ ps, Hid (MatI w W4 w.heap.size HB' n (i + 1) ps (sysM l0 l1)) := fun W4 h1 h2 =>
        ⟨_, Lib.hid (HM.out.next hlt (Ex.comp HEW2.out h2 (Nat.le_refl _)) ((h2.block _ (heap_lt HHW2.out) (fun e => HPH.out e.symm)).trans HHW2.out) (Nat.le_refl _) h1 (by rw [HSY.out, List.length_append, HXL.out]; rfl))⟩
      have hput : (((wc.drew.setCell ⟨wr.heap.size, n * 3, none⟩ (.bool (rdS l1 i).f0)).setCell ⟨wr.heap.size, n * 3 + 1, none⟩ (.string (rdS l1 i).f1)).setCell ⟨wr.heap.size, n * 3 + 2, none⟩ (.string (rdS l1 i).f2)).heap[wr.heap.size]? = some (.cells (rowC (sysM l0 l1 i)) 31 (0, 0)) := by
        have := row_put (W := wc.drew) HRC.out (j := n) (by rw [List.length_append, HXL.out]; simp) (rdS l1 i)
        rw [sysM_set _ _ _ _ HXL.out] at this
        rw [HSY.out]; exact this
      have hexp : Ex wr.heap.size W2 (((wc.drew.setCell ⟨wr.heap.size, n * 3, none⟩ (.bool (rdS l1 i).f0)).setCell ⟨wr.heap.size, n * 3 + 1, none⟩ (.string (rdS l1 i).f1)).setCell ⟨wr.heap.size, n * 3 + 2, none⟩ (.string (rdS l1 i).f2)) :=
        HEC.out.trans (((Ex.below (Below.refl _ wc).drew).trans (Ex.setCell _ _ _)).trans ((Ex.setCell _ _ _).trans (Ex.setCell _ _ _)))
      have HEND := Lib.hid (hend _ hput hexp)
      have HK0 := Lib.hid (HST.out _ (HEC.out.trans (Ex.below (Below.refl _ wc).drew))).1
      have HK1 := Lib.hid (HST.out _ hexp).1
      clear hend hput hexp
      clear q1 q2 q4 q5 q6
      have i1 : (0 : Int) ≤ (n : Int) := by omega
      have i2 : (n : Int) < (n : Int) + 1 := by omega
      have i3 : (n : Int) < ((n + 1 : Nat) : Int) := by omega
      go_region_held3 (fun W => (W.cell? ⟨w.heap.size, 0, none⟩ = some (.int .i64 n) ∧ W.cell? ⟨HB', i, none⟩ = some (.slice (some ⟨wr.heap.size, 0, none⟩) (n + 1) (n + 1)) ∧ W.cell? ⟨b, off + i, none⟩ = some (.slice (some ⟨ba, offa, none⟩) n (cs i)) ∧ W.cell? ⟨bb, offb + i * 3, none⟩ = some (.bool (rdS l1 i).f0) ∧ W.cell? ⟨bb, offb + i * 3 + 1, none⟩ = some (.string (rdS l1 i).f1) ∧ W.cell? ⟨bb, offb + i * 3 + 2, none⟩ = some (.string (rdS l1 i).f2)))
        (first
          | exact HK0.out
          | exact HK1.out)
        (first | fail)
      all_goals go_wp2_with fail
      all_goals go_roundw
      case rel =>
        obtain ⟨ps', hps⟩ := HEND.out
        exact ⟨i + 1, hlt, rfl, ps', hps⟩
      case measure => simp only [intOf]; omega
    · obtain rfl : n = i := by omega
      have HMF := Lib.hid HM.out.full
      clear HM HMI hi hmkr
      have HTAB := HT
      clear HT
      go_wp2
      go_loopw [74] (fun s74 wr => ∃ k : Nat, k ≤ n ∧ s74 = .int .i64 k ∧ ∃ ps M, Hid (Mat w wr w.heap.size HB' n ps M) ∧ Hid (solI n n 0 (sysM l0 l1) = solI n (n - k) k M))
        (fun s74 _ => (n - intOf s74).toNat)
      case atStart => exact ⟨0, Nat.zero_le _, rfl, _, _, HMF, Lib.hid rfl⟩
      case round =>
        clear HMF ps
        obtain ⟨k, hk, rfl, ps, M, HM, HSO⟩ := hrel
        by_cases hlt : k < n
        · obtain ⟨hbK, gK⟩ : Below wr.heap.size wr (wr.alloc (.cells #[.int .i64 k] 3)) ∧ (wr.alloc (.cells #[.int .i64 k] 3)).heap[wr.heap.size]? = some (.cells #[.int .i64 k] 3 (0, 0)) := ⟨(Below.refl _ wr).alloc (Nat.le_refl _) _, World.alloc_heap_new wr _⟩
          have HPV := Lib.hid (piv_calls (HM.out.below hbK) hlt h8 gK)
          have HBK := Lib.hid hbK
          have HGK := Lib.hid gK
          clear hbK gK
          have hso : ∀ d, n - k = d + 1 → solI n n 0 (sysM l0 l1) = solI n (d + 1) k M := fun d hd => by rw [HSO.out, hd]
          have HSD := Lib.hid (hso (n - (k + 1)) (by omega))
          clear hso
          rcases pivI_cases n k M hlt with hneg | ⟨f, hf, hfn⟩
          ·
            have HRS : Hid (r = ([], 12)) := Lib.hid (by
              have hs := HSD.out
              rw [solI, if_pos hneg] at hs
              rw [HRES.out, hs, if_neg (show ¬ (12 : Int) = 0 by decide)])
            have HNEG := Lib.hid hneg
            clear hneg
            obtain ⟨pv, hpv⟩ : ∃ pv, pivI n k M = pv := ⟨_, rfl⟩
            rw [hpv] at HPV HNEG
            clear hpv
            have hneg := HNEG.out
            go_wp2_with (go_at_call 26; with_reducible refine (HPV.out _).mono ?_; rintro e w2 ⟨rfl, hb2⟩; have HB2 := Lib.hid (HM.out.bel.trans ((HBK.out.trans (hb2.mono HBK.out.size)).mono HM.out.bel.size)); clear hb2)
            go_ret2
            rw [HRS.out]
            exact ⟨_, rfl, Kd.R_nil _ _ _ _ _, HB2.out⟩
          · have HF := Lib.hid hf
            have hf0 : ¬ ((f : Int) < 0) := by omega
            rw [hf] at HPV
            clear hf
            go_upto_region 20 with (go_at_call 26; with_reducible refine (HPV.out _).mono ?_; rintro e w2 ⟨rfl, hb2⟩; have HB2 := Lib.hid (HBK.out.trans (hb2.mono HBK.out.size)); have HGK2 := Lib.hid ((hb2.block _ (heap_lt HGK.out)).trans HGK.out); clear hb2)
            have HM2 := Lib.hid (HM.out.below HB2.out)
            have HKB := Lib.hid HB2.out.size
            have HKNE : HB' ≠ wr.heap.size := by have := heap_lt HM.out.hb; omega
            clear HM HBK HPV HGK HB2
            obtain ⟨k1, k2⟩ := cell_of_box _ _ _ _ HGK2.out
            obtain ⟨b1, b2⟩ := HM2.out.hb.get hlt
            obtain ⟨e1, e2⟩ := HM2.out.hb.get hfn
            have hkf1 : (k : Int) + (f : Int) < (n : Int) := by omega
            have hkf2 : 0 ≤ (k : Int) + (f : Int) := by omega
            have hkf3 : ((k : Int) + (f : Int)).toNat = k + f := by omega
            go_cut [] (fun wx => Hid (Mat w wx w.heap.size HB' n (fun i => ps (Ga.sw k (k + f) i)) (fun i => M (Ga.sw k (k + f) i))) ∧ Hid (wx.heap[wr.heap.size]? = some (.cells #[.int .i64 k] 3 (0, 0))))
            case first =>
              obtain ⟨X, hX⟩ : ∃ X, (w2.setCell ⟨HB', k, none⟩ (.slice (some ⟨ps (k + f), 0, none⟩) (n + 1) (n + 1))).cell? ⟨HB', k + f, none⟩ = some X := ⟨_, ((HM2.out.hb.set hlt (slv n (ps (k + f)))).get hfn).1⟩
              unfold slv at b1 e1
              go_region
              all_goals go_wp2_with fail
              all_goals go_meet
              have hM3 := (HM2.out.swap hlt hfn).below (Below.refl _ _).drew
              have hK3 : ((w2.setCell ⟨HB', k, none⟩ (slv n (ps (k + f)))).setCell ⟨HB', k + f, none⟩ (slv n (ps k))).drew.heap[wr.heap.size]? = some (.cells #[.int .i64 k] 3 (0, 0)) :=
                (Below.heap_setCell _ _ _ _ (fun e => HKNE e.symm)).trans ((Below.heap_setCell _ _ _ _ (fun e => HKNE e.symm)).trans HGK2.out)
              unfold slv at hM3 hK3
              exact ⟨Lib.hid hM3, Lib.hid hK3⟩
            case rest =>
            obtain ⟨HM3, HK3⟩ := hcut
            obtain ⟨M1, hM1⟩ : ∃ M1, (fun i => M (Ga.sw k (k + f) i)) = M1 := ⟨_, rfl⟩
            obtain ⟨ps1, hps1⟩ : ∃ ps1, (fun i => ps (Ga.sw k (k + f) i)) = ps1 := ⟨_, rfl⟩
            have hMk : M1 k = M (k + f) := by rw [← hM1]; show M (Ga.sw k (k + f) k) = _; unfold Ga.sw; rw [if_pos rfl]
            rw [hM1, hps1] at HM3
            have HM1 := Lib.hid hM1
            have HMK := Lib.hid hMk
            have HKNE2 := Lib.hid HKNE
            clear hM1 hps1 hMk HM2 HGK2 k1 k2 b1 b2 e1 e2 HKNE hkf1 hkf2 hkf3
            obtain ⟨W5, rfl⟩ : ∃ W5, W5 = wc := ⟨wc, rfl⟩
            obtain ⟨k1, k2⟩ := cell_of_box _ _ _ _ HK3.out
            obtain ⟨b1, b2⟩ := HM3.out.hb.get hlt
            unfold slv at b1
            have hl1 := heap_lt HM3.out.hb
            have hl2 := heap_lt HK3.out
            go_upto_region 21 with fail
            go_cut [11] (fun s11 wx => ∃ VB cv, W5.heap.size ≤ VB ∧ s11 = .pointer (some ⟨VB, 0, none⟩) ∧ Hid (wx.heap[VB]? = some (.cells #[.slice (some ⟨ps1 k, k * 3, none⟩) (n + 1 - k) cv] 23 (0, 0))) ∧ Hid (Below W5.heap.size W5 wx))
            case first =>
              have HSS := Lib.hid (fun W (hW : Below W5.heap.size W5 W) => (And.intro ((hW.cell (p := ⟨wr.heap.size, 0, none⟩) hl2).trans k1) ((hW.cell (p := ⟨HB', k, none⟩) hl1).trans b1)))
              clear k1 b1 k2 b2
              have i1 : (0 : Int) ≤ (k : Int) := by omega
              have i2 : (k : Int) ≤ (n : Int) + 1 := by omega
              have i3 : (k : Int) ≤ ((n + 1 : Nat) : Int) := by omega
              have i4 : k ≤ n + 1 := by omega
              go_region_held3 (fun W => W.cell? ⟨wr.heap.size, 0, none⟩ = some (.int .i64 k) ∧ W.cell? ⟨HB', k, none⟩ = some (.slice (some ⟨ps1 k, 0, none⟩) (n + 1) (n + 1)))
                (first
                  | exact HSS.out _ (Below.refl _ W5).drew
                  | exact HSS.out _ ((Below.refl _ W5).drew.alloc (Nat.le_refl _) _)
                  | exact HSS.out _ (((Below.refl _ W5).drew.alloc (Nat.le_refl _) _).setCell (Nat.le_refl _) _))
                (first | fail)
              all_goals go_wp2_with fail
              all_goals go_meet
              all_goals first
                | exact ⟨W5.heap.size, n + 1 - k, Nat.le_refl _, rfl, Lib.hid (World.alloc_heap_new W5.drew _), Lib.hid ((Below.refl _ W5).drew.alloc (Nat.le_refl _) _)⟩
                | exact ⟨W5.heap.size, n + 1 - k, Nat.le_refl _, rfl, Lib.hid (box_set _ _ _ _ _ (World.alloc_heap_new W5.drew _)), Lib.hid (((Below.refl _ W5).drew.alloc (Nat.le_refl _) _).setCell (Nat.le_refl _) _)⟩
                | exact ⟨W5.heap.size, n + 1 - k, Nat.le_refl _, rfl, Lib.hid (box_set _ _ _ _ _ (World.alloc_heap_new W5 _)), Lib.hid (((Below.refl _ W5).alloc (Nat.le_refl _) _).drew.setCell (Nat.le_refl _) _)⟩
                | exact ⟨W5.heap.size, n + 1 - k, Nat.le_refl _, rfl, Lib.hid (World.alloc_heap_new W5 _), Lib.hid (((Below.refl _ W5).alloc (Nat.le_refl _) _).drew)⟩
            case rest =>
            obtain ⟨VB, cv, hVB, rfl, HVB, HB6⟩ := hcut
            have HM6 := Lib.hid (HM3.out.below HB6.out)
            have HK6 := Lib.hid ((HB6.out.block _ hl2).trans HK3.out)
            have hrk : ∀ j, j < n → ps1 j < W5.heap.size := fun j hj => heap_lt (HM3.out.row j hj)
            have HRK := Lib.hid hrk
            clear k1 k2 b1 b2 HM3 HK3 hrk HB6 hl1 hl2
            obtain ⟨p, hp⟩ : ∃ p, rdS (M1 k) k = p := ⟨_, rfl⟩
            have hvc := (cell_of_box _ _ _ _ HVB.out).1
            obtain ⟨d0, d1, d2, _⟩ := row_cells (HM6.out.row k hlt) (j := k) (by rw [HM6.out.len k hlt]; omega)
            rw [hp] at d0 d1 d2
            have HP := Lib.hid hp
            have hnk : 0 < n + 1 - k := by omega
            have hnk' : k ≤ n + 1 := by omega
            clear hp
            have hb7 : Below wc.heap.size wc (wc.alloc (.cells #[.bool p.f0, .string p.f1, .string p.f2] 31)) := (Below.refl _ wc).alloc (Nat.le_refl _) _
            obtain ⟨dr, hdr⟩ : ∃ dr, divR n k (k + f) M = dr := ⟨_, rfl⟩
            have hchg : chg (fun _ x => divS x p) k (n + 1 - k) 0 (M1 k) = dr := by rw [← hdr, ← HP.out, HMK.out, divR]
            have HDV := Lib.hid (fun c => divrow_calls HTAB.out (HM6.out.below hb7) hlt h8 (World.alloc_heap_new wc _ : BoxS (wc.alloc (.cells #[.bool p.f0, .string p.f1, .string p.f2] 31)) wc.heap.size p) (by have := heap_lt (HM6.out.row k hlt); omega) c)
            rw [hchg] at HDV
            obtain ⟨M2, hM2⟩ : ∃ M2, upd M1 k dr.1 = M2 := ⟨_, rfl⟩
            have hst := HSD.out
            rw [solI_step (M2 := M2) HF.out hdr (by rw [HM1.out, hM2])] at hst
            have HST := Lib.hid hst
            have HM2k : Hid (M2 k = dr.1) := Lib.hid (by rw [← hM2]; exact upd_self)
            rw [hM2] at HDV
            have HB7 := Lib.hid hb7
            have HK7 := Lib.hid ((hb7.block _ (heap_lt HK6.out)).trans HK6.out)
            have HV7 := Lib.hid ((hb7.block _ (heap_lt HVB.out)).trans HVB.out)
            have HNK : Hid (wr.heap.size ≠ ps1 k) := Lib.hid (ne_type HK6.out (HM6.out.row k hlt) (by decide))
            have HNV : Hid (VB ≠ ps1 k) := Lib.hid (ne_type HVB.out (HM6.out.row k hlt) (by decide))
            clear hb7 hst hdr hchg hM2 HSD
            go_upto_region 23 with fail
            clear d0 d1 d2
            have hfin : ∀ w8, Mat w w8 w.heap.size HB' n ps1 M2 ∧ Ex (ps1 k) (wc.alloc (.cells #[.bool p.f0, .string p.f1, .string p.f2] 31)) w8 → w8.heap[wr.heap.size]? = some (.cells #[.int .i64 k] 3 (0, 0)) ∧ w8.heap[VB]? = some (.cells #[.slice (some ⟨ps1 k, k * 3, none⟩) (n + 1 - k) cv] 23 (0, 0)) := fun w8 h =>
              ⟨(h.2.block _ (heap_lt HK7.out) HNK.out).trans HK7.out, (h.2.block _ (heap_lt HV7.out) HNV.out).trans HV7.out⟩
            have HFIN := Lib.hid hfin
            have hvc7 := (cell_of_box _ _ _ _ HV7.out).1
            clear hfin
            obtain ⟨er, her⟩ : ∃ er, dr.2 = er := ⟨_, rfl⟩
            rw [her] at HDV HST
            by_cases hz : er = 0
            · subst hz
              have hst := HST.out
              rw [if_pos rfl] at hst
              have HST := Lib.hid hst
              clear hst
              go_wp2_with (go_at_call 29; with_reducible refine (HDV.out _).mono ?_; rintro e w8 ⟨rfl, hm8, hex8⟩; have HM8 := Lib.hid hm8; have HE8 := Lib.hid (HFIN.out _ ⟨hm8, hex8⟩); clear hm8 hex8)
              clear HDV HFIN hvc hvc7 HK7 HV7 HB7 HNK HNV
              have hvb := heap_lt HE8.out.2
              obtain ⟨KB, hKB⟩ : ∃ KB, wr.heap.size = KB := ⟨_, rfl⟩
              rw [hKB] at HE8 ⊢
              clear hKB
              go_wp2
              go_loopw [119] (fun s119 wt => ∃ i : Nat, i ≤ n ∧ s119 = .int .i64 i ∧ ∃ M3, Hid (Mat w wt w.heap.size HB' n ps1 M3) ∧ Hid (elimI dr.1 n k n 0 M2 = elimI dr.1 n k (n - i) i M3) ∧ Hid (M3 k = dr.1) ∧ Hid (wt.heap[KB]? = some (.cells #[.int .i64 k] 3 (0, 0))) ∧ Hid (wt.heap[VB]? = some (.cells #[.slice (some ⟨ps1 k, k * 3, none⟩) (n + 1 - k) cv] 23 (0, 0))))
                (fun s119 _ => (n - intOf s119).toNat)
              case atStart => exact ⟨0, Nat.zero_le _, rfl, _, HM8, Lib.hid rfl, HM2k, Lib.hid HE8.out.1, Lib.hid HE8.out.2⟩
              case round =>
                clear HM8 HE8 hvb HM2k
                obtain ⟨i, hi, rfl, M3, HM, HEL, HPV, HKB, HVB⟩ := hrel
                by_cases hlti : i < n
                · obtain ⟨x0, x1, x2, hx⟩ : ∃ x0 x1 x2, rdS (M3 i) k = (⟨x0, x1, x2⟩ : SR) := ⟨_, _, _, rfl⟩
                  obtain ⟨b1, b2⟩ := HM.out.hb.get hlti
                  unfold slv at b1
                  obtain ⟨k1, k2⟩ := cell_of_box _ _ _ _ HKB.out
                  obtain ⟨d0, d1, d2, _⟩ := row_cells (HM.out.row i hlti) (j := k) (by rw [HM.out.len i hlti]; omega)
                  rw [hx] at d0 d1 d2
                  dsimp only at d0 d1 d2
                  have HX := Lib.hid hx
                  clear hx
                  have hkn1 : k < n + 1 := by omega
                  go_upto_region 30 with fail
                  have hb9 : Below wr.heap.size wr (wr.alloc (.cells #[.bool x0, .string x1, .string x2] 31)) := (Below.refl _ wr).alloc (Nat.le_refl _) _
                  have hg9 : BoxS (wr.alloc (.cells #[.bool x0, .string x1, .string x2] 31)) wr.heap.size ⟨x0, x1, x2⟩ := World.alloc_heap_new wr _
                  have HB9 := Lib.hid hb9
                  have HG9 := Lib.hid hg9
                  obtain ⟨W9, hW9⟩ : ∃ W9, wr.alloc (.cells #[.bool x0, .string x1, .string x2] 31) = W9 := ⟨_, rfl⟩
                  rw [hW9] at HB9 HG9 ⊢
                  have HFR := Lib.hid (fun j (hj : j < n) => heap_lt (HM.out.row j hj))
                  clear hb9 hg9 hW9 d0 d1 d2 b1 b2 k1 k2
                  have HM9 := Lib.hid (HM.out.below HB9.out)
                  have HKB9 := Lib.hid ((HB9.out.block _ (heap_lt HKB.out)).trans HKB.out)
                  have HVB9 := Lib.hid ((HB9.out.block _ (heap_lt HVB.out)).trans HVB.out)
                  clear HM HKB HVB
                  go_cut [135] (fun s135 wx => s135 = .bool (decide (i = k) || isZ ⟨x0, x1, x2⟩) ∧ Hid (Below W9.heap.size W9 wx))
                  case first =>
                    have HSS : Hid (∀ W, Below W9.heap.size W9 W → (W.cell? ⟨KB, 0, none⟩ = some (.int .i64 k) ∧ (W.cell? ⟨wr.heap.size, 0, none⟩ = some (.bool x0) ∧ W.cell? ⟨wr.heap.size, 1, none⟩ = some (.string x1) ∧ W.cell? ⟨wr.heap.size, 2, none⟩ = some (.string x2))) ∧ Below W9.heap.size W9 W) := Lib.hid fun W hW => by
                      obtain ⟨e0, e1, e2, _⟩ := box3 (HG9.out.below hW)
                      exact ⟨⟨(cell_of_box _ _ _ _ ((hW.block _ (heap_lt HKB9.out)).trans HKB9.out)).1, e0, e1, e2⟩, hW⟩
                    have hI : ∀ b : Bool, isZ ⟨x0, x1, x2⟩ = b → Hid ((decide (i = k) || isZ ⟨x0, x1, x2⟩) = (decide (i = k) || b)) := fun b hb => Lib.hid (by rw [hb])
                    clear HM9 HKB9 HVB9 HG9 HX HEL HPV HFR
                    by_cases hik : i = k
                    · have hike : ((i : Int) == (k : Int)) = true := by rw [hik]; simp
                      have hr0 : Hid (Value.bool (decide (i = k) || isZ ⟨x0, x1, x2⟩) = .bool true) := Lib.hid (by rw [decide_eq_true hik]; rfl)
                      clear hik hI
                      have hk9 := (HSS.out W9 (Below.refl _ W9)).1.1
                      go_region
                      all_goals go_wp2_with fail
                      all_goals go_meet
                      all_goals exact ⟨hr0.out.symm, Lib.hid (Below.refl _ W9).drew⟩
                    · have hike : ((i : Int) == (k : Int)) = false := by rw [beq_eq_false_iff_ne]; omega
                      have hdk : decide (i = k) = false := decide_eq_false hik
                      rw [hdk] at hI
                      have hr0 : ∀ b : Bool, isZ ⟨x0, x1, x2⟩ = b → Hid (Value.bool (decide (i = k) || isZ ⟨x0, x1, x2⟩) = .bool b) := fun b hb => Lib.hid (by rw [hdk, hb]; rfl)
                      clear hI hdk hik
                      unfold isZ at hr0
                      cases x0
                      · by_cases z1 : x1.toList = [48]
                        · have z1x : (x1.toList == [48]) = true := beq_iff_eq.2 z1
                          by_cases z2 : x2.toList = [49]
                          · have z2x : (x2.toList == [49]) = true := beq_iff_eq.2 z2
                            have hr1 := hr0 true (by rw [z1x, z2x]; rfl)
                            clear hr0
                            go_region_held3 (fun W => (W.cell? ⟨KB, 0, none⟩ = some (.int .i64 k) ∧ (W.cell? ⟨wr.heap.size, 0, none⟩ = some (.bool false) ∧ W.cell? ⟨wr.heap.size, 1, none⟩ = some (.string x1) ∧ W.cell? ⟨wr.heap.size, 2, none⟩ = some (.string x2))) ∧ Below W9.heap.size W9 W)
                              (first
                                | exact HSS.out _ (Below.refl _ W9).drew
                                | exact HSS.out _ hb1)
                              (first
                                | (go_at_call 28; with_reducible refine (zero_calls _).mono ?_; rintro e w1 ⟨rfl, hb0⟩; have hb1 : Below W9.heap.size W9 w1 := ((Below.refl _ W9).drew).trans (hb0.mono (Nat.le_refl _))))
                            all_goals go_wp2_with fail
                            all_goals go_meet
                            all_goals exact ⟨hr1.out.symm, Lib.hid hb1⟩
                          · have z2x : (x2.toList == [49]) = false := beq_eq_false_iff_ne.2 z2
                            have hr1 := hr0 false (by rw [z1x, z2x]; rfl)
                            clear hr0
                            go_region_held3 (fun W => (W.cell? ⟨KB, 0, none⟩ = some (.int .i64 k) ∧ (W.cell? ⟨wr.heap.size, 0, none⟩ = some (.bool false) ∧ W.cell? ⟨wr.heap.size, 1, none⟩ = some (.string x1) ∧ W.cell? ⟨wr.heap.size, 2, none⟩ = some (.string x2))) ∧ Below W9.heap.size W9 W)
                              (first
                                | exact HSS.out _ (Below.refl _ W9).drew
                                | exact HSS.out _ hb1)
                              (first
                                | (go_at_call 28; with_reducible refine (zero_calls _).mono ?_; rintro e w1 ⟨rfl, hb0⟩; have hb1 : Below W9.heap.size W9 w1 := ((Below.refl _ W9).drew).trans (hb0.mono (Nat.le_refl _))))
                            all_goals go_wp2_with fail
                            all_goals go_meet
                            all_goals exact ⟨hr1.out.symm, Lib.hid hb1⟩
                        · have z1x : (x1.toList == [48]) = false := beq_eq_false_iff_ne.2 z1
                          have hr1 := hr0 false (by rw [z1x]; rfl)
                          clear hr0
                          go_region_held3 (fun W => (W.cell? ⟨KB, 0, none⟩ = some (.int .i64 k) ∧ (W.cell? ⟨wr.heap.size, 0, none⟩ = some (.bool false) ∧ W.cell? ⟨wr.heap.size, 1, none⟩ = some (.string x1) ∧ W.cell? ⟨wr.heap.size, 2, none⟩ = some (.string x2))) ∧ Below W9.heap.size W9 W)
                            (first
                              | exact HSS.out _ (Below.refl _ W9).drew
                              | exact HSS.out _ hb1)
                            (first
                              | (go_at_call 28; with_reducible refine (zero_calls _).mono ?_; rintro e w1 ⟨rfl, hb0⟩; have hb1 : Below W9.heap.size W9 w1 := ((Below.refl _ W9).drew).trans (hb0.mono (Nat.le_refl _))))
                          all_goals go_wp2_with fail
                          all_goals go_meet
                          all_goals exact ⟨hr1.out.symm, Lib.hid hb1⟩
                      · have hr1 := hr0 false rfl
                        clear hr0
                        go_region_held3 (fun W => (W.cell? ⟨KB, 0, none⟩ = some (.int .i64 k) ∧ (W.cell? ⟨wr.heap.size, 0, none⟩ = some (.bool true) ∧ W.cell? ⟨wr.heap.size, 1, none⟩ = some (.string x1) ∧ W.cell? ⟨wr.heap.size, 2, none⟩ = some (.string x2))) ∧ Below W9.heap.size W9 W)
                          (first
                            | exact HSS.out _ (Below.refl _ W9).drew
                            | exact HSS.out _ hb1)
                          (first
                            | (go_at_call 28; with_reducible refine (zero_calls _).mono ?_; rintro e w1 ⟨rfl, hb0⟩; have hb1 : Below W9.heap.size W9 w1 := ((Below.refl _ W9).drew).trans (hb0.mono (Nat.le_refl _))))
                        all_goals go_wp2_with fail
                        all_goals go_meet
                        all_goals exact ⟨hr1.out.symm, Lib.hid hb1⟩
                  case rest =>
                  obtain ⟨rfl, HBX⟩ := hcut
                  have HM10 := Lib.hid (HM9.out.below HBX.out)
                  have HKB10 := Lib.hid ((HBX.out.block _ (heap_lt HKB9.out)).trans HKB9.out)
                  have HVB10 := Lib.hid ((HBX.out.block _ (heap_lt HVB9.out)).trans HVB9.out)
                  have HG10 := Lib.hid (HG9.out.below HBX.out)
                  clear HM9 HKB9 HVB9 HG9 HBX
                  have hel : ∀ d, n - i = d + 1 → elimI dr.1 n k n 0 M2 = elimI dr.1 n k (d + 1) i M3 := fun d hd => by rw [HEL.out, hd]
                  have HEL2 := Lib.hid (hel (n - (i + 1)) (by omega))
                  clear hel HEL
                  by_cases hc : i = k ∨ isZ (rdS (M3 i) k) = true
                  · have hb : (decide (i = k) || isZ ⟨x0, x1, x2⟩) = true := by rw [← HX.out]; rcases hc with h | h <;> simp [h]
                    rw [hb]
                    have hee := HEL2.out
                    rw [elimI_skip hc] at hee
                    have HEE := Lib.hid hee
                    clear hee hc hb
                    go_wp2
                    go_roundw
                    case rel => exact ⟨i + 1, hlti, rfl, M3, HM10, HEE, HPV, HKB10, HVB10⟩
                    case measure => simp only [intOf]; omega
                  · have hb : (decide (i = k) || isZ ⟨x0, x1, x2⟩) = false := by
                      rw [← HX.out]
                      rw [not_or] at hc
                      rw [decide_eq_false hc.1, Bool.eq_false_iff.2 hc.2]; rfl
                    rw [hb]
                    obtain ⟨cr, hcr⟩ : ∃ cr, chg (elimS ⟨x0, x1, x2⟩ dr.1 k) k (n + 1 - k) 0 (M3 i) = cr := ⟨_, rfl⟩
                    have hnFB : wr.heap.size ≠ ps1 i := by have := HFR.out i hlti; omega
                    have HNVB : Hid (VB ≠ ps1 i) := Lib.hid (ne_type HVB10.out (HM10.out.row i hlti) (by decide))
                    have HNKB : Hid (KB ≠ ps1 i) := Lib.hid (ne_type HKB10.out (HM10.out.row i hlti) (by decide))
                    have HER := Lib.hid (fun c => elimrow_calls HTAB.out HM10.out hlt hlti (fun e => hc (.inl e)) h8 HG10.out HVB10.out hnFB HNVB.out c)
                    rw [HPV.out, hcr] at HER
                    obtain ⟨b1, b2⟩ := HM10.out.hb.get hlti
                    obtain ⟨k1, k2⟩ := cell_of_box _ _ _ _ HKB10.out
                    have hik : ¬ i = k := fun e => hc (.inl e)
                    have hkn1 : k ≤ n + 1 := by omega
                    have HEL3 : Hid (elimI dr.1 n k n 0 M2 = if cr.2 = 0 then elimI dr.1 n k (n - (i + 1)) (i + 1) (upd M3 i cr.1) else (M3, cr.2)) := Lib.hid (by
                      have hcr' := hcr
                      rw [← HX.out] at hcr'
                      by_cases h0 : cr.2 = 0
                      · rw [if_pos h0, HEL2.out, elimI_ok1 hc (by rw [hcr']; exact h0), hcr']
                      · rw [if_neg h0, HEL2.out, elimI_err1 hc (by rw [hcr']; exact h0), hcr'])
                    have HIK := Lib.hid hik
                    obtain ⟨ec, hec⟩ : ∃ ec, cr.2 = ec := ⟨_, rfl⟩
                    rw [hec] at HER HEL3
                    clear hc hb hcr hnFB HEL2 b1 b2 hec hik
                    by_cases hz : ec = 0
                    · subst hz
                      have hel := HEL3.out
                      rw [if_pos rfl] at hel
                      have HEL4 := Lib.hid hel
                      clear hel HEL3
                      go_wp2_with (go_at_call 29; with_reducible refine (HER.out _).mono ?_; rintro e w11 ⟨rfl, hm11, hex11⟩; have HM11 := Lib.hid hm11; have HK11 := Lib.hid ((hex11.block _ (heap_lt HKB10.out) HNKB.out).trans HKB10.out); have HV11 := Lib.hid ((hex11.block _ (heap_lt HVB10.out) HNVB.out).trans HVB10.out); clear hm11 hex11)
                      go_roundw
                      case rel => exact ⟨i + 1, hlti, rfl, _, HM11, HEL4, Lib.hid ((upd_other (fun e => HIK.out e.symm)).trans HPV.out), HK11, HV11⟩
                      case measure => simp only [intOf]; omega
                    · have HRS : Hid (r = ([], ec)) := Lib.hid (by
                        have he := HEL3.out
                        rw [if_neg hz] at he
                        have hs : solI n n 0 (sysM l0 l1) = (M, ec) := by rw [HST.out, he]; simp [hz]
                        rw [HRES.out, hs, if_neg (show ¬ ec = 0 from hz)])
                      have hz2 : (ec != 0) = true := bne_iff_ne.2 hz
                      clear hz HEL3
                      go_wp2_with (go_at_call 29; with_reducible refine (HER.out _).mono ?_; rintro e w11 ⟨rfl, hm11, hex11⟩; have HM11 := Lib.hid hm11; clear hm11 hex11)
                      go_ret2
                      rw [HRS.out]
                      exact ⟨_, rfl, Kd.R_nil _ _ _ _ _, HM11.out.bel⟩
                · have hin : n = i := by omega
                  subst hin
                  have hel := HEL.out
                  rw [Nat.sub_self, elimI] at hel
                  have hs := HST.out
                  rw [hel, if_pos rfl] at hs
                  have HS4 := Lib.hid hs
                  clear hel hs HEL HST
                  go_wp2
                  go_roundw
                  case rel => exact ⟨k + 1, hlt, rfl, ps1, M3, HM, HS4⟩
                  case measure => simp only [intOf]; omega
            ·
              have HRS : Hid (r = ([], er)) := Lib.hid (by
                have hs := HST.out
                rw [if_neg hz] at hs
                rw [HRES.out, hs, if_neg (show ¬ er = 0 from hz)])
              have hz2 : (er != 0) = true := bne_iff_ne.2 hz
              clear hz
              go_wp2_with (go_at_call 29; with_reducible refine (HDV.out _).mono ?_; rintro e w8 ⟨rfl, hm8, hex8⟩; have HM8 := Lib.hid hm8; clear hm8 hex8)
              go_ret2
              rw [HRS.out]
              exact ⟨_, rfl, Kd.R_nil _ _ _ _ _, HM8.out.bel⟩
        · have hkn : k = n := by omega
          subst hkn
          have hs := HSO.out
          rw [Nat.sub_self, solI] at hs
          have HRS : Hid (r = ((List.range k).map fun i => rdS (M i) k, 0)) := Lib.hid (by rw [HRES.out, hs, if_pos rfl])
          clear hs HSO HRES hk hlt
          obtain ⟨W4, hW4⟩ : ∃ W4, W4 = wr := ⟨_, rfl⟩
          have HM4 : Hid (Mat w W4 w.heap.size HB' k ps M) := Lib.hid (by rw [hW4]; exact HM.out)
          clear HM
          go_wp2
          go_loopw [18, 148] (fun s18 s148 wt => ∃ i : Nat, i ≤ k ∧ s148 = .int .i64 i ∧ Hid (Kd.R kR 31 wt W4.heap.size (fun _ => True) s18 ((List.range i).map fun i => rdS (M i) k)) ∧ Hid (Below W4.heap.size W4 wt))
            (fun _ s148 _ => (k - intOf s148).toNat)
          case atStart => exact ⟨0, Nat.zero_le _, rfl, Lib.hid (Kd.R_nil _ _ _ _ _), Lib.hid (by rw [hW4]; exact Below.refl _ _)⟩
          case round =>
            clear hW4
            obtain ⟨i, hi, rfl, HO, HB⟩ := hrel
            have HM := Lib.hid (HM4.out.below HB.out)
            by_cases hlt : i < k
            · obtain ⟨x0, x1, x2, hx⟩ : ∃ x0 x1 x2, rdS (M i) k = (⟨x0, x1, x2⟩ : SR) := ⟨_, _, _, rfl⟩
              obtain ⟨b1, b2⟩ := HM.out.hb.get hlt
              unfold slv at b1
              have n1 := (cell_of_box _ _ _ _ HM.out.nb).1
              obtain ⟨d0, d1, d2, _⟩ := row_cells (HM.out.row i hlt) (j := k) (by rw [HM.out.len i hlt]; omega)
              rw [hx] at d0 d1 d2
              dsimp only at d0 d1 d2
              have HX := Lib.hid hx
              clear hx b2
              go_wp2_with (at_builtin; refine Kd.R_append kR (w0 := W4) W4.heap.size rfl (.tmp 152) (.tmp 157) 23 31 (.agg #[.bool false, .string ⟨#[]⟩, .string ⟨#[]⟩]) 40 rfl Tryz.underlying23 info31 rfl (by decide) (by decide) _ ((List.range i).map fun i => rdS (M i) k) (⟨x0, x1, x2⟩ : SR) [.bool x0, .string x1, .string x2] (fun _ => True) (fun _ => False) rfl rfl (k31_mkM _ _ _ (⟨x0, x1, x2⟩ : SR)) (fun _ hk => hk.elim) (fun _ _ => trivial) HO.out HB.out HB.out.size (by rw [List.length_map, List.length_range]; omega) ?_; intro v1 w5 ho5 hb5 hg5 hat5; have HO5 := Lib.hid ho5; have HB5 := Lib.hid hb5; clear ho5 hb5 hg5 hat5)
              go_roundw
              case rel => exact ⟨i + 1, hlt, rfl, Lib.hid (by rw [List.range_succ, List.map_append, List.map_singleton, HX.out]; exact HO5.out), HB5⟩
              case measure => simp only [intOf]; omega
            · have hik : i = k := by omega
              subst hik
              go_wp2
              go_ret2
              rw [HRS.out]
              exact ⟨_, rfl, Kd.R_lower HO.out HM4.out.bel.size, HM4.out.bel.trans (HB.out.mono HM4.out.bel.size)⟩
end Go.Proofs.YtmkanjcehhbmlaaGreatDoor.Pr
end
