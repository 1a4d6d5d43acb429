/- strconv.FormatUint at base 10; strconv.Itoa. -/
import Derived.Lib.AppendIntMem
import Derived.Test.YtmkanjcehhbmlaaGreatDoorDShelf
import Derived.Test.YtmkanjcehhbmlaaGreatDoorDSpec
import Derived.Test.YtmkanjcehhbmlaaGreatDoorDTab
set_option linter.all false
section
namespace Go.Proofs.YtmkanjcehhbmlaaGreatDoor.Pr
open Go.RowKit Go.Shelf Go.Sort
set_option maxHeartbeats 4000000 in
set_option maxRecDepth 100000 in
theorem formatUint_in (u : Nat) (hu64 : u < 18446744073709551616) (w : World) (hTab : Tab w) :
    Calls Tryz.prog 133 #[.int .u64 u, .int .i64 10] w fun e w' => e = .returned (.string (Sp.dec u)) ∧ Below w.heap.size w w' := by
  by_cases hlt : u < 100
  · go_enter Tryz.func133, Tryz.ntmps133
    go_wp2_with (go_at_call 123; refine (Tryz.internal_strconv_small u hlt _).mono ?_; rintro e w' ⟨rfl, rfl⟩)
    go_ret
    exact ⟨rfl, Below.refl _ _⟩
  · have hu1 : 1 ≤ u := by omega
    have hnd20 : Lib.nDigits u ≤ 20 := by have := Lib.numDigits_eq u hu1 hu64; split at this <;> omega
    have hb3 : Lib.nDigits u ≤ 24 := by omega
    have hal : Tryz.prog.arrayLen 124 = 24 := by simp [Program.arrayLen, Tryz.underlying124]
    have hsl1 : ∀ W, (Instr.sliceAt 124 (.pointer (some ⟨w.heap.size, 0, none⟩)) none (some (.int .i64 (Lib.nDigits u : Int))) none).run Tryz.prog W = .ok (.slice (some ⟨w.heap.size, 0, none⟩) (Lib.nDigits u) 24) W := fun W => by
      rw [run_sliceAt_array_h W 124 ⟨w.heap.size, 0, none⟩ (by simp [Program.arrayLen, Program.elem, Tryz.underlying124]) .i64 (Lib.nDigits u : Int) (by omega) (by rw [hal]; omega)]
      go_simp
    have hH0 := Lib.holds_zero0 w 124 (Lib.nDigits u) (by omega)
    have hfmt := Tryz.internal_strconv_formatBase10 w.heap.size 0 24 u (Array.replicate (Lib.nDigits u) 0) (w.alloc (.cells Lib.zeros24 124)) hH0 (by rw [Array.size_replicate]; exact Lib.lt_pow_nDigits u) hu64 (by rw [Array.size_replicate]; omega)
    rw [Array.size_replicate] at hfmt
    have HH0 := Lib.hid hH0
    clear hH0 hal
    have HT := Lib.hid hTab
    clear hTab
    go_enter Tryz.func133, Tryz.ntmps133
    go_wp2_with (go_at_call 124; refine (Tryz.internal_strconv_numDigits u hu1 hu64 _ (Lib.tabIs_alloc HT.out _)).mono ?_; rintro e w' ⟨rfl, rfl⟩)
    go_at_call 125
    refine hfmt.mono ?_
    rintro e w' ⟨rfl, k, v', dk, rfl, hF⟩
    have hcv : (convert 106 9 (.slice (some ⟨w.heap.size, 0, none⟩) (Lib.nDigits u) 24)).run Tryz.prog ((putRow (fun (b : UInt8) => Value.int .u8 (b.toNat : Int)) (w.alloc (.cells Lib.zeros24 124)) w.heap.size 0 dk).drewN k) = .ok (.string ⟨(Lib.decDigits u).toArray⟩) ((putRow (fun (b : UInt8) => Value.int .u8 (b.toNat : Int)) (w.alloc (.cells Lib.zeros24 124)) w.heap.size 0 dk).drewN k) := by
      have h := run_convert_bytes_back (P := Tryz.prog) ((putRow (fun (b : UInt8) => Value.int .u8 (b.toNat : Int)) (w.alloc (.cells Lib.zeros24 124)) w.heap.size 0 dk).drewN k) 106 9 5 ⟨w.heap.size, 0, none⟩ 24 (Lib.decDigits u) Tryz.underlying106 Tryz.underlying5 Tryz.underlying9 (fun j hj => by
        rw [Lib.row_is_numeral hF j hj, Lib.add_plain, World.cell?_drewN]
        exact cell?_putRow (fun (b : UInt8) => Value.int .u8 (b.toNat : Int)) _ w.heap.size 0 _ dk HH0.out (by rw [hF.size, Array.size_replicate]) j (by rw [hF.size]; rw [Lib.decDigits_length] at hj; exact hj))
      rw [Lib.decDigits_length] at h
      exact h
    go_wp2
    go_ret
    obtain ⟨os, eo⟩ := Lib.fin_at w (.cells Lib.zeros24 124) dk k 0
    refine ⟨rfl, ?_⟩
    rw [eo]
    exact Lib.below_grow w.heap.size w (Nat.le_refl _) k os
set_option maxHeartbeats 1000000 in
theorem formatUint_calls (u : Nat) (hu64 : u < 18446744073709551616) (w : World) (hTab : Tab w) :
    Calls Tryz.prog 111 #[.int .u64 u, .int .i64 10] w fun e w' => e = .returned (.string (Sp.dec u)) ∧ Below w.heap.size w w' := by
  have H := Lib.hid (formatUint_in u hu64 w hTab)
  clear hTab
  go_enter Tryz.func111, Tryz.ntmps111
  go_wp2_with (go_at_call 133; refine H.out.mono ?_; rintro e w' ⟨rfl, hb⟩)
  go_ret
  exact ⟨rfl, hb⟩
end Go.Proofs.YtmkanjcehhbmlaaGreatDoor.Pr
end
