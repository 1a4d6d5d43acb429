/- linear.Solve as a function of what came in. -/
import Derived.Test.YtmkanjcehhbmlaaGreatDoorDBuild
import Derived.Test.YtmkanjcehhbmlaaGreatDoorDFmt
import Derived.Test.YtmkanjcehhbmlaaGreatDoorDGL1
import Derived.Test.YtmkanjcehhbmlaaGreatDoorDGL2
import Derived.Test.YtmkanjcehhbmlaaGreatDoorDGN
import Derived.Test.YtmkanjcehhbmlaaGreatDoorDGN2
import Derived.Test.YtmkanjcehhbmlaaGreatDoorDGN3
import Derived.Test.YtmkanjcehhbmlaaGreatDoorDGRR
import Derived.Test.YtmkanjcehhbmlaaGreatDoorDGRS
import Derived.Test.YtmkanjcehhbmlaaGreatDoorDGW
import Derived.Test.YtmkanjcehhbmlaaGreatDoorDGW2
import Derived.Test.YtmkanjcehhbmlaaGreatDoorDLinQ
import Derived.Test.YtmkanjcehhbmlaaGreatDoorDNatApply
import Derived.Test.YtmkanjcehhbmlaaGreatDoorDNatS
import Derived.Test.YtmkanjcehhbmlaaGreatDoorDNum
import Derived.Test.YtmkanjcehhbmlaaGreatDoorDNumAdd
import Derived.Test.YtmkanjcehhbmlaaGreatDoorDNumCmp
import Derived.Test.YtmkanjcehhbmlaaGreatDoorDNumDiv
import Derived.Test.YtmkanjcehhbmlaaGreatDoorDNumIs
import Derived.Test.YtmkanjcehhbmlaaGreatDoorDNumMul
import Derived.Test.YtmkanjcehhbmlaaGreatDoorDNumOps
import Derived.Test.YtmkanjcehhbmlaaGreatDoorDNumParse
import Derived.Test.YtmkanjcehhbmlaaGreatDoorDNumText
import Derived.Test.YtmkanjcehhbmlaaGreatDoorDNumVal
import Derived.Test.YtmkanjcehhbmlaaGreatDoorDPrA1
import Derived.Test.YtmkanjcehhbmlaaGreatDoorDPrA11
import Derived.Test.YtmkanjcehhbmlaaGreatDoorDPrA4
import Derived.Test.YtmkanjcehhbmlaaGreatDoorDPrA5
import Derived.Test.YtmkanjcehhbmlaaGreatDoorDPrB1
import Derived.Test.YtmkanjcehhbmlaaGreatDoorDPrB2
import Derived.Test.YtmkanjcehhbmlaaGreatDoorDRatOps
import Derived.Test.YtmkanjcehhbmlaaGreatDoorDRatProd
import Derived.Test.YtmkanjcehhbmlaaGreatDoorDRatSum
import Derived.Test.YtmkanjcehhbmlaaGreatDoorDRatVal
import Derived.Test.YtmkanjcehhbmlaaGreatDoorDShelf
import Derived.Test.YtmkanjcehhbmlaaGreatDoorDSpec
import Derived.Test.YtmkanjcehhbmlaaGreatDoorDTab
import Derived.Test.YtmkanjcehhbmlaaGreatDoorDWLast
set_option linter.all false
section
namespace Go.Proofs.YtmkanjcehhbmlaaGreatDoor.Pr
set_option linter.unusedSimpArgs false
set_option linter.unusedVariables false
open Go.RowKit Go.Shelf Go.Proofs.YtmkanjcehhbmlaaGreatDoorW.PrintWords Go.Proofs.YtmkanjcehhbmlaaGreatDoorW.PrintLast Go.Proofs.YtmkanjcehhbmlaaGreatDoorW.PrintMore
/-- What Solve answers (lists of great lengths are not spoken of). -/
def linear_Solve.f (l0 : List (List S31)) (l1 : List S31) : Option (List S31 × Int) :=
  if l0.length ≤ 100000 ∧ l1.length ≤ 100000 ∧ ∀ r ∈ l0, r.length ≤ 100000 then some (linF l0 l1) else none
set_option maxRecDepth 100000 in
set_option maxHeartbeats 1000000 in
theorem solve_big (A0 : Option Addr) (cA : Nat) (A1 : Option Addr) (c1 : Nat) (n : Nat) (w : World) (h8 : 8 < n) (hl : n ≤ 100000)
    (hv : ∀ W, Below w.heap.size w W → Calls Tryz.prog 23 #[.slice A1 n c1] W fun e w' => e = .returned (.bool true) ∧ Below W.heap.size W w')
    (hc : ∀ W B, Below w.heap.size w W → W.heap[B]? = some (.cells #[.int .i64 n] 3 (0, 0)) → Calls Tryz.prog 24 #[.slice A0 n cA, .func (.func 25) #[] #[.pointer (some ⟨B, 0, none⟩)]] W fun e w' => e = .returned (.bool false) ∧ Below W.heap.size W w') :
    Calls Tryz.prog 12 #[.slice A0 n cA, .slice A1 n c1] w (SolvePost w ([], 2)) := by
  have HV := Lib.hid hv
  have HC := Lib.hid hc
  clear hv hc
  have hb1 : Hid (Below w.heap.size w (w.alloc (.cells #[.int .i64 n] 3))) := Lib.hid ((Below.refl _ w).alloc (Nat.le_refl _) _)
  have g1 := Lib.hid (World.alloc_heap_new w (.cells #[.int .i64 n] 3))
  have hne : ((n : Int) != (n : Int)) = false := by simp
  have h8' : (8 : Int) < (n : Int) := by omega
  go_enter Tryz.func12, Tryz.ntmps12
  go_wp2_with (first | (go_at_call 23; with_reducible refine (HV.out _ hb1.out).mono ?_; rintro e w1 ⟨rfl, hb⟩; have HB := Lib.hid (hb1.out.trans (hb.mono hb1.out.size)); have G := Lib.hid ((hb.block _ (heap_lt g1.out)).trans g1.out); clear hb) | (go_at_call 24; with_reducible refine (HC.out _ _ HB.out G.out).mono ?_; rintro e w2 ⟨rfl, hb2⟩; have HB2 := Lib.hid (HB.out.trans (hb2.mono HB.out.size)); have G2 := Lib.hid ((hb2.block _ (heap_lt G.out)).trans G.out); have c0 := (cell_of_box _ _ _ _ G2.out).1; clear hb2))
  go_ret2
  exact ⟨_, rfl, Kd.R_nil _ _ _ _ _, HB2.out⟩
theorem linear_Solve.calls (A0 : Option Addr) (c0 : Nat) (l0 : List (List S31)) (A1 : Option Addr) (c1 : Nat) (l1 : List S31) (r1 : List S31) (r2 : Int) (w : World) (hTab : Tab w)
    (hr0 : Go.Proofs.YtmkanjcehhbmlaaGreatDoorW.PrintWords.Kd.C (Go.Proofs.YtmkanjcehhbmlaaGreatDoorW.PrintWords.Kd.slice 31 k31) w A0 l0.length l0) (hc0 : l0.length ≤ c0) (hr1 : Go.Proofs.YtmkanjcehhbmlaaGreatDoorW.PrintWords.Kd.C k31 w A1 l1.length l1) (hc1 : l1.length ≤ c1) (h : linear_Solve.f l0 l1 = some (r1, r2)) :
    Calls Tryz.prog 12 #[.slice A0 l0.length c0, .slice A1 l1.length c1] w fun e w' => ∃ v0_ : Value, e = .returned (.tuple #[v0_, .int .i64 r2]) ∧ Go.Proofs.YtmkanjcehhbmlaaGreatDoorW.PrintWords.Kd.R k31 31 w' w.heap.size (fun _ => True) v0_ r1 ∧ Below w.heap.size w w' := by
  unfold linear_Solve.f at h
  by_cases hs : l0.length ≤ 100000 ∧ l1.length ≤ 100000 ∧ ∀ r ∈ l0, r.length ≤ 100000
  · rw [if_pos hs] at h
    obtain ⟨hl0, hl1, hls⟩ := hs
    have hls' : ∀ j, (l0.getD j []).length ≤ 100000 := fun j => by
      rw [List.getD_eq_getElem?_getD]
      cases e : l0[j]? with
      | none => simp
      | some r => exact hls _ (List.mem_of_getElem? e)
    have hlin : linF l0 l1 = (r1, r2) := Option.some.inj h
    show Calls Tryz.prog _ _ w (SolvePost w (r1, r2))
    rw [← hlin]
    cases hg : goodA l0 l1
    · rw [linF_bad hg]
      exact solve_bad A0 c0 l0 A1 c1 l1 w hTab hr0 hr1 hl0 hls' hl1 hg
    · obtain ⟨e1, e2, e3⟩ := goodA_parts hg
      have hg' := hg
      unfold goodA at hg'
      simp only [Bool.and_eq_true, decide_eq_true_eq] at hg'
      have hv : ∀ W, Below w.heap.size w W → Calls Tryz.prog 23 #[.slice A1 l1.length c1] W fun e w' => e = .returned (.bool true) ∧ Below W.heap.size W w' := fun W hW => by
        have := valid_calls A1 c1 l1 W (hTab.below hW) (Kd.C_below hr1 hW) hl1
        rwa [hg'.2.1] at this
      have hc : ∀ W B, Below w.heap.size w W → W.heap[B]? = some (.cells #[.int .i64 l1.length] 3 (0, 0)) → Calls Tryz.prog 24 #[.slice A0 l1.length c0, .func (.func 25) #[] #[.pointer (some ⟨B, 0, none⟩)]] W fun e w' => e = .returned (.bool false) ∧ Below W.heap.size W w' := fun W B hW hB => by
        have := rows_test A0 c0 l0 l1.length B w W hTab hr0 hl0 hls' hW hB
        rw [hg'.2.2, e1] at this
        exact this
      rw [e1]
      unfold linF
      rw [if_neg (by rw [hg]; decide)]
      by_cases h8 : 8 < l1.length
      · rw [if_pos h8]
        exact solve_big A0 c0 A1 c1 l1.length w h8 hl1 hv hc
      · rw [if_neg h8]
        obtain ⟨As, cs, hH, hC⟩ := rows_cells hr0
        refine solve_main A0 c0 l0 A1 c1 l1 l1.length As cs w hTab ⟨fun h0 => ?_, fun j hj => ?_, fun j hj => (e3 j hj).1, hr1, rfl⟩ (by omega) hv hc _ rfl
        · obtain ⟨b, off, eA, hb, hcc⟩ := hH (by omega)
          exact ⟨b, off, eA, hb, fun j hj => by have := hcc j (by omega); dsimp only at this ⊢; rw [(e3 j hj).1] at this; exact this⟩
        · have := hC j (by omega)
          rwa [(e3 j hj).1] at this
  · rw [if_neg hs] at h; cases h
end Go.Proofs.YtmkanjcehhbmlaaGreatDoor.Pr
end
