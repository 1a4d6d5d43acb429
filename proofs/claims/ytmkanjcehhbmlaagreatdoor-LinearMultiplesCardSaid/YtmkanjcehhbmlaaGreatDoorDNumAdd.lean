/- The contract of natural.number.add. (Written by gen_add.py.) -/
import Derived.Test.YtmkanjcehhbmlaaGreatDoorDGN2
import Derived.Test.YtmkanjcehhbmlaaGreatDoorDGW
import Derived.Test.YtmkanjcehhbmlaaGreatDoorDGW2
import Derived.Test.YtmkanjcehhbmlaaGreatDoorDNum
import Derived.Test.YtmkanjcehhbmlaaGreatDoorDPrA4
import Derived.Test.YtmkanjcehhbmlaaGreatDoorDWLast
set_option linter.all false
section
namespace Go.Proofs.YtmkanjcehhbmlaaGreatDoor.Pr
set_option linter.unusedSimpArgs false
set_option linter.unusedVariables false
open Go.RowKit Go.Shelf Go.Proofs.YtmkanjcehhbmlaaGreatDoorW.PrintWords Go.Proofs.YtmkanjcehhbmlaaGreatDoorW.PrintLast Go.Proofs.YtmkanjcehhbmlaaGreatDoorW.PrintMore
/-- The sum at place k, carry and all; the carry into place k. -/
def yAt (ys : List Int) (k : Nat) : Int := if k < ys.length then rd ys (k : Nat) else 0
def cyL (xs ys : List Int) : Nat → Int
  | 0 => 0
  | k + 1 => (rd xs (k : Nat) + cyL xs ys k + yAt ys k) / 1000000000
def svL (xs ys : List Int) (k : Nat) : Int := rd xs (k : Nat) + cyL xs ys k + yAt ys k
def outL (xs ys : List Int) (k : Nat) : List Int := (List.range k).map fun j => svL xs ys j % 1000000000
def addL' (xs ys : List Int) : List Int := trimL (outL xs ys xs.length ++ [cyL xs ys xs.length])
def addL (xs ys : List Int) : List Int := if xs.length < ys.length then addL' ys xs else addL' xs ys
theorem cyL_succ (xs ys : List Int) (k : Nat) : cyL xs ys (k + 1) = svL xs ys k / 1000000000 := rfl
theorem outL_len (xs ys : List Int) (k : Nat) : (outL xs ys k).length = k := by simp [outL]
theorem outL_succ (xs ys : List Int) (k : Nat) : outL xs ys (k + 1) = outL xs ys k ++ [svL xs ys k % 1000000000] := by unfold outL; rw [List.range_succ, List.map_append]; rfl
theorem yAt_lim {ys : List Int} (hy : Limbs ys) (k : Nat) : 0 ≤ yAt ys k ∧ yAt ys k < 1000000000 := by
  unfold yAt; split
  · exact hy.rd _
  · omega
theorem cyL_lim {xs ys : List Int} (hx : Limbs xs) (hy : Limbs ys) : ∀ k, 0 ≤ cyL xs ys k ∧ cyL xs ys k ≤ 1
  | 0 => by simp [cyL]
  | k + 1 => by
    have h1 := cyL_lim hx hy k
    have h2 := hx.rd (k : Nat)
    have h3 := yAt_lim hy k
    rw [cyL]
    omega
attribute [local go_sem] max2_int max_two
set_option maxRecDepth 100000 in
set_option maxHeartbeats 4000000 in
theorem add_stay (A B : Option Addr) (c d : Nat) (xs ys : List Int) (w : World) (hx : CU w A xs) (hy : CU w B ys) (hLx : Limbs xs) (hLy : Limbs ys) (hle : ¬ xs.length < ys.length) (hr : xs.length ≤ 100000) (hr2 : ys.length ≤ 100000) :
    Calls Tryz.prog 89 #[.slice A xs.length c, .slice B ys.length d] w fun e w' => ∃ v : Value, e = .returned v ∧ (Kd.int .u64).V 99 w' w.heap.size (fun k => w.heap.size ≤ k) v (addL' xs ys) ∧ Below w.heap.size w w' := by
  have HL := Lib.hid hle
  have HX := Lib.hid hx
  have HY := Lib.hid hy
  have HLX := Lib.hid hLx
  have HLY := Lib.hid hLy
  clear hx hy hLx hLy
  obtain ⟨i0, hi, hz0, hz1, hz2⟩ := info_parts info99
  go_enter Tryz.func89, Tryz.ntmps89
  go_wp2_with (refine wpList_make_own _ rfl _ _ 63 rfl w.heap.size 99 i0 (.int .u64 0) 1 Tryz.underlying63 hi hz0 hz1 .i64 .i64 _ (xs.length + 1) rfl rfl (by first | rfl | omega) (by rw [hz2]; omega) (by unfold maxLen; omega) (Nat.le_refl _) ?_; intro w1 ho1 hg1)
  have hB1 : Below w.heap.size w w1 := ⟨hg1.os, hg1.tape, hg1.output, hg1.size, fun k hk => hg1.block k hk (by simp)⟩
  have hR1 : (Kd.int .u64).R 99 w1 w.heap.size (fun k => w.heap.size ≤ k) (.slice (some ⟨w.heap.size, 0, none⟩) 0 (xs.length + 1)) [] := ⟨fun k hk => by simp [Value.ownBlock] at hk; omega, [], ho1, Reps.none _ _⟩
  have HR1 := Lib.hid hR1
  have HB1 := Lib.hid hB1
  clear ho1 hg1 hR1 hB1
  go_loopw [5, 6, 22] (fun v c i wr => ∃ k : Nat, k ≤ xs.length ∧ i = .int .i64 k ∧ c = .int .u64 (cyL xs ys k) ∧ (Kd.int .u64).R 99 wr w.heap.size (fun k => w.heap.size ≤ k) v (outL xs ys k) ∧ Below w.heap.size w wr)
    (fun v c i _ => (xs.length - intOf i).toNat)
  case atStart => exact ⟨0, Nat.zero_le _, rfl, rfl, HR1.out, HB1.out⟩
  case round =>
    obtain ⟨k, hk, rfl, rfl, hR, hB⟩ := hrel
    have HR := Lib.hid hR
    have HB := Lib.hid hB
    clear hR hB
    by_cases hlt : k < xs.length
    · obtain ⟨b, off, rfl, hb, hcs⟩ := cu_cells HX.out (by omega)
      have hcx := (HB.out.cell (p := ⟨b, off + k, none⟩) hb).trans (hcs k hlt)
      clear hcs
      obtain ⟨x, hx⟩ : ∃ x, rd xs (k : Nat) = x := ⟨_, rfl⟩
      obtain ⟨c0, hc0⟩ : ∃ c0, cyL xs ys k = c0 := ⟨_, rfl⟩
      obtain ⟨y, hy⟩ : ∃ y, yAt ys k = y := ⟨_, rfl⟩
      have hxl := HLX.out.rd (k : Nat)
      have hcl := cyL_lim HLX.out HLY.out k
      have hyl := yAt_lim HLY.out k
      rw [hx] at hxl hcx
      rw [hc0] at hcl
      rw [hy] at hyl
      have hsv : svL xs ys k = x + c0 + y := by unfold svL; rw [hx, hc0, hy]
      have hfin : ∀ (E C : Int) v1 w2, E = (k : Int) + 1 → C = (x + c0 + y) / 1000000000 → (Kd.int .u64).R 99 w2 w.heap.size (fun k => w.heap.size ≤ k) v1 (outL xs ys k ++ [(x + c0 + y) % 1000000000]) → Below w.heap.size w w2 → ∃ k' : Nat, k' ≤ xs.length ∧ Value.int .i64 E = .int .i64 k' ∧ Value.int .u64 C = .int .u64 (cyL xs ys k') ∧ (Kd.int .u64).R 99 w2 w.heap.size (fun k => w.heap.size ≤ k) v1 (outL xs ys k') ∧ Below w.heap.size w w2 := fun E C v1 w2 hE hC h1 h2 =>
        ⟨k + 1, hlt, by rw [hE]; rfl, by rw [hC, cyL_succ, hsv], by rw [outL_succ, hsv]; exact h1, h2⟩
      have HF := Lib.hid hfin
      have HX0 := Lib.hid hx
      have HC0 := Lib.hid hc0
      have HY0 := Lib.hid hy
      simp only [hc0]
      clear hfin hx hc0 hsv hy
      by_cases hyk : k < ys.length
      · obtain ⟨b2, off2, rfl, hb2, hcs2⟩ := cu_cells HY.out (by omega)
        have hcy := (HB.out.cell (p := ⟨b2, off2 + k, none⟩) hb2).trans (hcs2 k hyk)
        have hye : rd ys (k : Nat) = y := by rw [← HY0.out]; unfold yAt; rw [if_pos hyk]
        rw [hye] at hcy
        clear hcs2 hye
        have e1 : IntKind.u64.wrap (x + c0) = x + c0 := by rw [IntKind.wrap_u64]; omega
        have e2 : IntKind.u64.wrap (x + c0 + y) = x + c0 + y := by rw [IntKind.wrap_u64]; omega
        have e3 : Int.tmod (x + c0 + y) 1000000000 = (x + c0 + y) % 1000000000 := Int.tmod_eq_emod_of_nonneg (by omega)
        have e4 : Int.tdiv (x + c0 + y) 1000000000 = (x + c0 + y) / 1000000000 := Int.tdiv_eq_ediv_of_nonneg (by omega)
        go_wp2_with (at_builtin; refine Kd.R_append (Kd.int .u64) (w0 := w) w.heap.size rfl (.tmp 40) (.tmp 43) 63 99 (.int .u64 0) 8 rfl Tryz.underlying63 info99 rfl (by decide) (by decide) u5 (outL xs ys k) ((x + c0 + y) % 1000000000) [.int .u64 ((x + c0 + y) % 1000000000)] (fun k => w.heap.size ≤ k) (fun _ => False) rfl rfl rfl (fun _ h => h.elim) (fun k hk => Nat.le_trans HB.out.size hk) HR.out HB.out HB.out.size (by rw [outL_len]; omega) ?_; intro v1 w2 hR2 hB2 _ _)
        go_roundw
        case rel => exact HF.out _ _ _ _ rfl rfl hR2 hB2
        case measure => simp only [intOf]; omega
      · have hy0 : y = 0 := by rw [← HY0.out]; unfold yAt; rw [if_neg hyk]
        subst hy0
        have e1 : IntKind.u64.wrap (x + c0) = x + c0 + 0 := by rw [IntKind.wrap_u64]; omega
        have e3 : Int.tmod (x + c0 + 0) 1000000000 = (x + c0 + 0) % 1000000000 := Int.tmod_eq_emod_of_nonneg (by omega)
        have e4 : Int.tdiv (x + c0 + 0) 1000000000 = (x + c0 + 0) / 1000000000 := Int.tdiv_eq_ediv_of_nonneg (by omega)
        rw [Int.add_zero] at e1 e3 e4
        have HF2 := HF
        simp only [Int.add_zero] at HF2
        go_wp2_with (at_builtin; refine Kd.R_append (Kd.int .u64) (w0 := w) w.heap.size rfl (.tmp 40) (.tmp 43) 63 99 (.int .u64 0) 8 rfl Tryz.underlying63 info99 rfl (by decide) (by decide) u5 (outL xs ys k) ((x + c0) % 1000000000) [.int .u64 ((x + c0) % 1000000000)] (fun k => w.heap.size ≤ k) (fun _ => False) rfl rfl rfl (fun _ h => h.elim) (fun k hk => Nat.le_trans HB.out.size hk) HR.out HB.out HB.out.size (by rw [outL_len]; omega) ?_; intro v1 w2 hR2 hB2 _ _)
        go_roundw
        case rel => exact HF2.out _ _ _ _ rfl rfl hR2 hB2
        case measure => simp only [intOf]; omega
    · obtain rfl : k = xs.length := by omega
      obtain ⟨c0, hc0⟩ : ∃ c0, cyL xs ys xs.length = c0 := ⟨_, rfl⟩
      have HC0 := Lib.hid hc0
      simp only [hc0]
      clear hc0
      go_wp2_with (first | (at_builtin; refine Kd.R_append (Kd.int .u64) (w0 := w) w.heap.size rfl (.tmp 48) (.tmp 50) 63 99 (.int .u64 0) 8 rfl Tryz.underlying63 info99 rfl (by decide) (by decide) u5 (outL xs ys xs.length) c0 [.int .u64 c0] (fun k => w.heap.size ≤ k) (fun _ => False) rfl rfl rfl (fun _ h => h.elim) (fun k hk => Nat.le_trans HB.out.size hk) HR.out HB.out HB.out.size (by rw [outL_len]; omega) ?_; intro v1 w2 hR2 hB2 _ _) | (go_at_call 109; obtain ⟨A2, c2, e2⟩ := Kd.R_slice hR2; subst e2; refine (natural_number_trim.calls ((outL xs ys xs.length ++ [c0]).length + 1) _ A2 c2 _ _ _ (Kd.R_V (base' := w2.heap.size) (Kd.R_tight rfl hR2)) (trim_f _ _ (by omega) ?hlen)).mono ?_; (case hlen => rw [List.length_append, outL_len]; simp; omega); rintro e w3 ⟨v3, rfl, hv3, hb3⟩))
      go_ret
      refine ⟨v3, rfl, ?_, hB2.trans (hb3.mono hB2.size)⟩
      unfold addL'
      rw [HC0.out]
      refine Kd.V_lower (Kd.V_mono hv3 (fun j hj => hj.elim (fun h => ?_) (fun h => Nat.le_trans hB2.size h))) hB2.size
      exact hR2.1 _ h.symm
set_option maxRecDepth 100000 in
set_option maxHeartbeats 4000000 in
theorem add_swap (A B : Option Addr) (c d : Nat) (xs ys : List Int) (w : World) (hx : CU w A xs) (hy : CU w B ys) (hLx : Limbs xs) (hLy : Limbs ys) (hle : ys.length < xs.length) (hr : xs.length ≤ 100000) (hr2 : ys.length ≤ 100000) :
    Calls Tryz.prog 89 #[.slice B ys.length d, .slice A xs.length c] w fun e w' => ∃ v : Value, e = .returned v ∧ (Kd.int .u64).V 99 w' w.heap.size (fun k => w.heap.size ≤ k) v (addL' xs ys) ∧ Below w.heap.size w w' := by
  have HL := Lib.hid hle
  have HX := Lib.hid hx
  have HY := Lib.hid hy
  have HLX := Lib.hid hLx
  have HLY := Lib.hid hLy
  clear hx hy hLx hLy
  obtain ⟨i0, hi, hz0, hz1, hz2⟩ := info_parts info99
  go_enter Tryz.func89, Tryz.ntmps89
  go_wp2_with (refine wpList_make_own _ rfl _ _ 63 rfl w.heap.size 99 i0 (.int .u64 0) 1 Tryz.underlying63 hi hz0 hz1 .i64 .i64 _ (xs.length + 1) rfl rfl (by first | rfl | omega) (by rw [hz2]; omega) (by unfold maxLen; omega) (Nat.le_refl _) ?_; intro w1 ho1 hg1)
  have hB1 : Below w.heap.size w w1 := ⟨hg1.os, hg1.tape, hg1.output, hg1.size, fun k hk => hg1.block k hk (by simp)⟩
  have hR1 : (Kd.int .u64).R 99 w1 w.heap.size (fun k => w.heap.size ≤ k) (.slice (some ⟨w.heap.size, 0, none⟩) 0 (xs.length + 1)) [] := ⟨fun k hk => by simp [Value.ownBlock] at hk; omega, [], ho1, Reps.none _ _⟩
  have HR1 := Lib.hid hR1
  have HB1 := Lib.hid hB1
  clear ho1 hg1 hR1 hB1
  go_loopw [5, 6, 22] (fun v c i wr => ∃ k : Nat, k ≤ xs.length ∧ i = .int .i64 k ∧ c = .int .u64 (cyL xs ys k) ∧ (Kd.int .u64).R 99 wr w.heap.size (fun k => w.heap.size ≤ k) v (outL xs ys k) ∧ Below w.heap.size w wr)
    (fun v c i _ => (xs.length - intOf i).toNat)
  case atStart => exact ⟨0, Nat.zero_le _, rfl, rfl, HR1.out, HB1.out⟩
  case round =>
    obtain ⟨k, hk, rfl, rfl, hR, hB⟩ := hrel
    have HR := Lib.hid hR
    have HB := Lib.hid hB
    clear hR hB
    by_cases hlt : k < xs.length
    · obtain ⟨b, off, rfl, hb, hcs⟩ := cu_cells HX.out (by omega)
      have hcx := (HB.out.cell (p := ⟨b, off + k, none⟩) hb).trans (hcs k hlt)
      clear hcs
      obtain ⟨x, hx⟩ : ∃ x, rd xs (k : Nat) = x := ⟨_, rfl⟩
      obtain ⟨c0, hc0⟩ : ∃ c0, cyL xs ys k = c0 := ⟨_, rfl⟩
      obtain ⟨y, hy⟩ : ∃ y, yAt ys k = y := ⟨_, rfl⟩
      have hxl := HLX.out.rd (k : Nat)
      have hcl := cyL_lim HLX.out HLY.out k
      have hyl := yAt_lim HLY.out k
      rw [hx] at hxl hcx
      rw [hc0] at hcl
      rw [hy] at hyl
      have hsv : svL xs ys k = x + c0 + y := by unfold svL; rw [hx, hc0, hy]
      have hfin : ∀ (E C : Int) v1 w2, E = (k : Int) + 1 → C = (x + c0 + y) / 1000000000 → (Kd.int .u64).R 99 w2 w.heap.size (fun k => w.heap.size ≤ k) v1 (outL xs ys k ++ [(x + c0 + y) % 1000000000]) → Below w.heap.size w w2 → ∃ k' : Nat, k' ≤ xs.length ∧ Value.int .i64 E = .int .i64 k' ∧ Value.int .u64 C = .int .u64 (cyL xs ys k') ∧ (Kd.int .u64).R 99 w2 w.heap.size (fun k => w.heap.size ≤ k) v1 (outL xs ys k') ∧ Below w.heap.size w w2 := fun E C v1 w2 hE hC h1 h2 =>
        ⟨k + 1, hlt, by rw [hE]; rfl, by rw [hC, cyL_succ, hsv], by rw [outL_succ, hsv]; exact h1, h2⟩
      have HF := Lib.hid hfin
      have HX0 := Lib.hid hx
      have HC0 := Lib.hid hc0
      have HY0 := Lib.hid hy
      simp only [hc0]
      clear hfin hx hc0 hsv hy
      by_cases hyk : k < ys.length
      · obtain ⟨b2, off2, rfl, hb2, hcs2⟩ := cu_cells HY.out (by omega)
        have hcy := (HB.out.cell (p := ⟨b2, off2 + k, none⟩) hb2).trans (hcs2 k hyk)
        have hye : rd ys (k : Nat) = y := by rw [← HY0.out]; unfold yAt; rw [if_pos hyk]
        rw [hye] at hcy
        clear hcs2 hye
        have e1 : IntKind.u64.wrap (x + c0) = x + c0 := by rw [IntKind.wrap_u64]; omega
        have e2 : IntKind.u64.wrap (x + c0 + y) = x + c0 + y := by rw [IntKind.wrap_u64]; omega
        have e3 : Int.tmod (x + c0 + y) 1000000000 = (x + c0 + y) % 1000000000 := Int.tmod_eq_emod_of_nonneg (by omega)
        have e4 : Int.tdiv (x + c0 + y) 1000000000 = (x + c0 + y) / 1000000000 := Int.tdiv_eq_ediv_of_nonneg (by omega)
        go_wp2_with (at_builtin; refine Kd.R_append (Kd.int .u64) (w0 := w) w.heap.size rfl (.tmp 40) (.tmp 43) 63 99 (.int .u64 0) 8 rfl Tryz.underlying63 info99 rfl (by decide) (by decide) u5 (outL xs ys k) ((x + c0 + y) % 1000000000) [.int .u64 ((x + c0 + y) % 1000000000)] (fun k => w.heap.size ≤ k) (fun _ => False) rfl rfl rfl (fun _ h => h.elim) (fun k hk => Nat.le_trans HB.out.size hk) HR.out HB.out HB.out.size (by rw [outL_len]; omega) ?_; intro v1 w2 hR2 hB2 _ _)
        go_roundw
        case rel => exact HF.out _ _ _ _ rfl rfl hR2 hB2
        case measure => simp only [intOf]; omega
      · have hy0 : y = 0 := by rw [← HY0.out]; unfold yAt; rw [if_neg hyk]
        subst hy0
        have e1 : IntKind.u64.wrap (x + c0) = x + c0 + 0 := by rw [IntKind.wrap_u64]; omega
        have e3 : Int.tmod (x + c0 + 0) 1000000000 = (x + c0 + 0) % 1000000000 := Int.tmod_eq_emod_of_nonneg (by omega)
        have e4 : Int.tdiv (x + c0 + 0) 1000000000 = (x + c0 + 0) / 1000000000 := Int.tdiv_eq_ediv_of_nonneg (by omega)
        rw [Int.add_zero] at e1 e3 e4
        have HF2 := HF
        simp only [Int.add_zero] at HF2
        go_wp2_with (at_builtin; refine Kd.R_append (Kd.int .u64) (w0 := w) w.heap.size rfl (.tmp 40) (.tmp 43) 63 99 (.int .u64 0) 8 rfl Tryz.underlying63 info99 rfl (by decide) (by decide) u5 (outL xs ys k) ((x + c0) % 1000000000) [.int .u64 ((x + c0) % 1000000000)] (fun k => w.heap.size ≤ k) (fun _ => False) rfl rfl rfl (fun _ h => h.elim) (fun k hk => Nat.le_trans HB.out.size hk) HR.out HB.out HB.out.size (by rw [outL_len]; omega) ?_; intro v1 w2 hR2 hB2 _ _)
        go_roundw
        case rel => exact HF2.out _ _ _ _ rfl rfl hR2 hB2
        case measure => simp only [intOf]; omega
    · obtain rfl : k = xs.length := by omega
      obtain ⟨c0, hc0⟩ : ∃ c0, cyL xs ys xs.length = c0 := ⟨_, rfl⟩
      have HC0 := Lib.hid hc0
      simp only [hc0]
      clear hc0
      go_wp2_with (first | (at_builtin; refine Kd.R_append (Kd.int .u64) (w0 := w) w.heap.size rfl (.tmp 48) (.tmp 50) 63 99 (.int .u64 0) 8 rfl Tryz.underlying63 info99 rfl (by decide) (by decide) u5 (outL xs ys xs.length) c0 [.int .u64 c0] (fun k => w.heap.size ≤ k) (fun _ => False) rfl rfl rfl (fun _ h => h.elim) (fun k hk => Nat.le_trans HB.out.size hk) HR.out HB.out HB.out.size (by rw [outL_len]; omega) ?_; intro v1 w2 hR2 hB2 _ _) | (go_at_call 109; obtain ⟨A2, c2, e2⟩ := Kd.R_slice hR2; subst e2; refine (natural_number_trim.calls ((outL xs ys xs.length ++ [c0]).length + 1) _ A2 c2 _ _ _ (Kd.R_V (base' := w2.heap.size) (Kd.R_tight rfl hR2)) (trim_f _ _ (by omega) ?hlen)).mono ?_; (case hlen => rw [List.length_append, outL_len]; simp; omega); rintro e w3 ⟨v3, rfl, hv3, hb3⟩))
      go_ret
      refine ⟨v3, rfl, ?_, hB2.trans (hb3.mono hB2.size)⟩
      unfold addL'
      rw [HC0.out]
      refine Kd.V_lower (Kd.V_mono hv3 (fun j hj => hj.elim (fun h => ?_) (fun h => Nat.le_trans hB2.size h))) hB2.size
      exact hR2.1 _ h.symm
theorem add_calls (A B : Option Addr) (c d : Nat) (xs ys : List Int) (w : World) (hx : CU w A xs) (hy : CU w B ys) (hLx : Limbs xs) (hLy : Limbs ys) (hr : xs.length ≤ 100000) (hr2 : ys.length ≤ 100000) :
    Calls Tryz.prog 89 #[.slice A xs.length c, .slice B ys.length d] w fun e w' => ∃ v : Value, e = .returned v ∧ (Kd.int .u64).V 99 w' w.heap.size (fun k => w.heap.size ≤ k) v (addL xs ys) ∧ Below w.heap.size w w' := by
  unfold addL
  split
  · exact add_swap B A d c ys xs w hy hx hLy hLx (by assumption) hr2 hr
  · exact add_stay A B c d xs ys w hx hy hLx hLy (by assumption) hr hr2
end Go.Proofs.YtmkanjcehhbmlaaGreatDoor.Pr
end
