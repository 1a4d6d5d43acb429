/- The contract of ratio.sum. (Written by gen_sum.py.) -/
import Derived.Test.YtmkanjcehhbmlaaGreatDoorDBuild
import Derived.Test.YtmkanjcehhbmlaaGreatDoorDFmt
import Derived.Test.YtmkanjcehhbmlaaGreatDoorDGN
import Derived.Test.YtmkanjcehhbmlaaGreatDoorDGN2
import Derived.Test.YtmkanjcehhbmlaaGreatDoorDGN3
import Derived.Test.YtmkanjcehhbmlaaGreatDoorDGW
import Derived.Test.YtmkanjcehhbmlaaGreatDoorDGW2
import Derived.Test.YtmkanjcehhbmlaaGreatDoorDNatApply
import Derived.Test.YtmkanjcehhbmlaaGreatDoorDNatS
import Derived.Test.YtmkanjcehhbmlaaGreatDoorDNum
import Derived.Test.YtmkanjcehhbmlaaGreatDoorDNumAdd
import Derived.Test.YtmkanjcehhbmlaaGreatDoorDNumCmp
import Derived.Test.YtmkanjcehhbmlaaGreatDoorDNumDiv
import Derived.Test.YtmkanjcehhbmlaaGreatDoorDNumIs
import Derived.Test.YtmkanjcehhbmlaaGreatDoorDNumMul
import Derived.Test.YtmkanjcehhbmlaaGreatDoorDNumOps
import Derived.Test.YtmkanjcehhbmlaaGreatDoorDNumParse
import Derived.Test.YtmkanjcehhbmlaaGreatDoorDNumText
import Derived.Test.YtmkanjcehhbmlaaGreatDoorDNumVal
import Derived.Test.YtmkanjcehhbmlaaGreatDoorDPrA1
import Derived.Test.YtmkanjcehhbmlaaGreatDoorDPrA11
import Derived.Test.YtmkanjcehhbmlaaGreatDoorDPrA4
import Derived.Test.YtmkanjcehhbmlaaGreatDoorDPrA5
import Derived.Test.YtmkanjcehhbmlaaGreatDoorDPrB1
import Derived.Test.YtmkanjcehhbmlaaGreatDoorDPrB2
import Derived.Test.YtmkanjcehhbmlaaGreatDoorDRatOps
import Derived.Test.YtmkanjcehhbmlaaGreatDoorDRatProd
import Derived.Test.YtmkanjcehhbmlaaGreatDoorDRatVal
import Derived.Test.YtmkanjcehhbmlaaGreatDoorDShelf
import Derived.Test.YtmkanjcehhbmlaaGreatDoorDSpec
import Derived.Test.YtmkanjcehhbmlaaGreatDoorDTab
import Derived.Test.YtmkanjcehhbmlaaGreatDoorDWLast
set_option linter.all false
section
namespace Go.Proofs.YtmkanjcehhbmlaaGreatDoor.Pr
set_option linter.unusedSimpArgs false
set_option linter.unusedVariables false
set_option exponentiation.threshold 400
open Go.RowKit Go.Shelf Go.Proofs.YtmkanjcehhbmlaaGreatDoorW.PrintWords Go.Proofs.YtmkanjcehhbmlaaGreatDoorW.PrintLast Go.Proofs.YtmkanjcehhbmlaaGreatDoorW.PrintMore
theorem p280 : (10 : Nat) ^ 280 * 10 ≤ 10 ^ 300 := by rw [← Nat.pow_succ]; exact Nat.pow_le_pow_right (by omega) (by omega)
theorem add_val {x y : Nat} (hx : x < 10 ^ 280) (hy : y < 10 ^ 280) : natural_Add.f (Sp.dec x) (Sp.dec y) = some (Sp.dec (x + y), 0) ∧ x + y < 10 ^ 300 := by
  have hp := p280
  have h1 : x < 10 ^ 300 := by generalize 10 ^ 280 = P at *; generalize 10 ^ 300 = Q at *; omega
  have h2 : y < 10 ^ 300 := by generalize 10 ^ 280 = P at *; generalize 10 ^ 300 = Q at *; omega
  have h3 : x + y < 10 ^ 300 := by generalize 10 ^ 280 = P at *; generalize 10 ^ 300 = Q at *; omega
  refine ⟨?_, h3⟩
  unfold natural_Add.f Sp.natOp
  rw [isNat_dec h1, isNat_dec h2, nval_dec, nval_dec]
  show some (Sp.lim (x + y)) = _
  rw [lim_small h3]
theorem sub_val {x y : Nat} (hx : x < 10 ^ 300) (hy : y < 10 ^ 300) (h : y ≤ x) : natural_Sub.f (Sp.dec x) (Sp.dec y) = some (Sp.dec (x - y), 0) := by
  unfold natural_Sub.f Sp.natOp
  rw [isNat_dec hx, isNat_dec hy, nval_dec, nval_dec]
  show some (if x < y then _ else _) = _
  rw [if_neg (by omega)]
theorem cmp_val {x y : Nat} (hx : x < 10 ^ 300) (hy : y < 10 ^ 300) : natural_Compare.f (Sp.dec x) (Sp.dec y) = some (if x < y then -1 else if y < x then 1 else 0, 0) := by
  unfold natural_Compare.f
  rw [isNat_dec hx, isNat_dec hy, nval_dec, nval_dec]
  rfl
set_option maxRecDepth 100000 in
set_option maxHeartbeats 2000000 in
theorem sum_same (n1 n2 : Bool) (x1 y1 x2 y2 : Nat) (w : World) (hTab : Tab w) (h1 : x1 < 10 ^ 140) (h2 : y1 < 10 ^ 140) (h3 : x2 < 10 ^ 140) (h4 : y2 < 10 ^ 140) (h5 : y1 ≠ 0) (h6 : y2 ≠ 0) (hn : n1 = n2) :
    Calls Tryz.prog 43 #[.agg #[.bool n1, .string (Sp.dec x1), .string (Sp.dec y1)], .agg #[.bool n2, .string (Sp.dec x2), .string (Sp.dec y2)]] w fun e w' => e = .returned (.tuple #[.agg #[.bool (Sp.okR (mkRat (sg n1 (x1 * y2 + x2 * y1)) (y1 * y2))).1, .string (Sp.okR (mkRat (sg n1 (x1 * y2 + x2 * y1)) (y1 * y2))).2.1, .string (Sp.okR (mkRat (sg n1 (x1 * y2 + x2 * y1)) (y1 * y2))).2.2.1], .int .i64 0]) ∧ Below w.heap.size w w' := by
  obtain ⟨r1, hx⟩ := mulT_dec h1 h4
  obtain ⟨r2, hy⟩ := mulT_dec h3 h2
  obtain ⟨r3, hz⟩ := mulT_dec h2 h4
  have hp := p280
  have hx3 : x1 * y2 < 10 ^ 300 := by generalize 10 ^ 280 = P at *; generalize 10 ^ 300 = Q at *; omega
  have hy3 : x2 * y1 < 10 ^ 300 := by generalize 10 ^ 280 = P at *; generalize 10 ^ 300 = Q at *; omega
  have hz3 : y1 * y2 < 10 ^ 300 := by generalize 10 ^ 280 = P at *; generalize 10 ^ 300 = Q at *; omega
  have hne : (n1 == n2) = true := by rw [hn]; simp
  clear hn
  obtain ⟨ha, hs3⟩ := add_val hx hy
  have HADD := Lib.hid (fun w hT => natural_Add.calls _ _ _ _ w hT ha)
  have hlow := lowest_val n1 (x1 * y2 + x2 * y1) (y1 * y2) (Nat.mul_ne_zero h5 h6) hs3 hz3
  have HLOW := Lib.hid (fun w hT => ratio_lowest.calls _ _ _ _ _ _ _ w hT hlow)
  clear ha hlow hs3
  generalize Sp.dec x1 = a1 at *
  generalize Sp.dec x2 = a2 at *
  generalize Sp.dec y1 = b1 at *
  generalize Sp.dec y2 = b2 at *
  generalize Sp.dec (x1 * y2) = m1 at *
  generalize Sp.dec (x2 * y1) = m2 at *
  generalize Sp.dec (y1 * y2) = m3 at *
  have HT := Lib.hid hTab
  have R1 := Lib.hid r1
  have R2 := Lib.hid r2
  have R3 := Lib.hid r3
  clear hTab r1 r2 r3 hx hy hz hx3 hy3 hz3 hp h1 h2 h3 h4 h5 h6
  have hprod : ∀ W : World, W = (((w.alloc (.cells #[.bool n1, .string a1, .string b1] 31)).alloc (.cells #[.bool n2, .string a2, .string b2] 31)).alloc (.cells #[.bool false, .string ⟨#[]⟩, .string ⟨#[]⟩] 31)).alloc (.cells #[.string a1, .string b2, .string a2, .string b1, .string b1, .string b2] 66) →
      Calls Tryz.prog 62 #[.slice (some ⟨w.heap.size + 3, 0, none⟩) 3 3] W fun e w' => ∃ b off c, e = .returned (.slice (some ⟨b, off, none⟩) 3 c) ∧ w'.cell? ⟨b, off, none⟩ = some (.string m1) ∧ w'.cell? ⟨b, off + 1, none⟩ = some (.string m2) ∧ w'.cell? ⟨b, off + 2, none⟩ = some (.string m3) ∧
        w'.heap[w.heap.size]? = some (.cells #[.bool n1, .string a1, .string b1] 31 (0, 0)) ∧ w'.heap[w.heap.size + 1]? = some (.cells #[.bool n2, .string a2, .string b2] 31 (0, 0)) ∧ w'.heap[w.heap.size + 2]? = some (.cells #[.bool false, .string ⟨#[]⟩, .string ⟨#[]⟩] 31 (0, 0)) ∧ Below w.heap.size w w' := fun W hW => by
    have hf := four w (.cells #[.bool n1, .string a1, .string b1] 31) (.cells #[.bool n2, .string a2, .string b2] 31) (.cells #[.bool false, .string ⟨#[]⟩, .string ⟨#[]⟩] 31) (.cells #[.string a1, .string b2, .string a2, .string b1, .string b1, .string b2] 66)
    dsimp only at hf
    rw [← hW] at hf
    obtain ⟨hs, g0, g1, g2, g3, hb⟩ := hf
    refine (products_calls (w.heap.size + 3) [(a1, b2), (a2, b1), (b1, b2)] W (HT.out.below hb) (by omega) ?_ (by simp)).mono ?_
    · intro j hj
      have hj2 : j = 0 ∨ j = 1 ∨ j = 2 := by simp at hj; omega
      rcases hj2 with rfl | rfl | rfl
      · constructor <;> simp [World.cell?, g3, prs]
      · constructor <;> simp [World.cell?, g3, prs]
      · constructor <;> simp [World.cell?, g3, prs]
    · rintro e w' ⟨v, rfl, hR, hb2⟩
      have hm : ([(a1, b2), (a2, b1), (b1, b2)] : List (ByteArray × ByteArray)).map mulT = [m1, m2, m3] := by rw [List.map_cons, List.map_cons, List.map_cons, R1.out, R2.out, R3.out]; rfl
      rw [hm] at hR
      obtain ⟨A, c, rfl⟩ := Kd.R_slice hR
      obtain ⟨_, _, hC⟩ := Kd.R_reads' hR
      obtain ⟨b, off, rfl, hlt, hcs⟩ := str_cells hC (by simp)
      exact ⟨b, off, c, rfl, hcs 0 m1 rfl, hcs 1 m2 rfl, hcs 2 m3 rfl, (hb2.block _ (by omega)).trans g0, (hb2.block _ (by omega)).trans g1, (hb2.block _ (by omega)).trans g2, hb.trans (hb2.mono (by omega))⟩
  have HP := Lib.hid hprod
  clear hprod
  go_enter Tryz.func43, Tryz.ntmps43
  go_wp2_with (go_at_call 62; refine (HP.out _ rfl).mono ?_; rintro e w1 ⟨b, off, c, rfl, hc0, hc1, hc2, g0, g1, g2, hb⟩)
  go_region_held3 (fun W => (W.cell? ⟨b, off, none⟩ = some (.string m1) ∧ W.cell? ⟨b, off + 1, none⟩ = some (.string m2)) ∧ W.cell? ⟨b, off + 2, none⟩ = some (.string m3)) (exact ⟨⟨hc0, hc1⟩, hc2⟩) (fail)
  have hN0 : w.heap.size < w1.heap.size := (Array.getElem?_eq_some_iff.1 g0).1
  have hN1 : w.heap.size + 1 < w1.heap.size := (Array.getElem?_eq_some_iff.1 g1).1
  have hN2 : w.heap.size + 1 + 1 < w1.heap.size := (Array.getElem?_eq_some_iff.1 g2).1
  have c0 := (box3 g0).1
  have c1 := (box3 g1).1
  have G2 := Lib.hid g2
  have HB := Lib.hid hb
  have HB0 : Hid (Below w1.heap.size w1 w1.drew) := Lib.hid (Below.refl _ w1).drew
  clear hc0 hc1 hc2 g0 g1 g2 hb
  have k00 := c0
  have k01 := c1
  go_wp2_with (first
    | (go_at_call 63; with_reducible refine (HADD.out _ (HT.out.below (HB.out.trans (HB0.out.mono HB.out.size)))).mono ?_; rintro e wn ⟨rfl, hb2⟩; have HB0 := Lib.hid (HB0.out.trans (hb2.mono HB0.out.size)); have c0 := (HB0.out.cell (p := ⟨w.heap.size, 0, none⟩) hN0).trans k00; have c1 := (HB0.out.cell (p := ⟨w.heap.size + 1, 0, none⟩) hN1).trans k01; clear hb2)
    | (go_at_call 58; with_reducible refine (HLOW.out _ (HT.out.below (HB.out.trans (HB0.out.mono HB.out.size)))).mono ?_; rintro e wn ⟨rfl, hb2⟩; have HB0 := Lib.hid (HB0.out.trans (hb2.mono HB0.out.size)); have hg2 := box3 ((HB0.out.block _ hN2).trans G2.out); obtain ⟨k0, k1, k2, f0, f1, f2⟩ := hg2; clear hb2))
  refine bodyPost_ret (results_ct rfl _ _ (w.heap.size + 1 + 1) 31 _ (0, 0) _ rfl (set3 ((HB0.out.block _ hN2).trans G2.out) _ _ _) Tryz.underlying31 rfl (by kernel_rfl)) rfl ?_
  exact ⟨rfl, (((HB.out.trans (HB0.out.mono HB.out.size)).setCell (p := ⟨w.heap.size + 1 + 1, 0, none⟩) (by show _ ≤ w.heap.size + 1 + 1; omega) _).setCell (p := ⟨w.heap.size + 1 + 1, 1, none⟩) (by show _ ≤ w.heap.size + 1 + 1; omega) _).setCell (p := ⟨w.heap.size + 1 + 1, 2, none⟩) (by show _ ≤ w.heap.size + 1 + 1; omega) _⟩
set_option maxRecDepth 100000 in
set_option maxHeartbeats 2000000 in
theorem sum_less (n1 n2 : Bool) (x1 y1 x2 y2 : Nat) (w : World) (hTab : Tab w) (h1 : x1 < 10 ^ 140) (h2 : y1 < 10 ^ 140) (h3 : x2 < 10 ^ 140) (h4 : y2 < 10 ^ 140) (h5 : y1 ≠ 0) (h6 : y2 ≠ 0) (hn : n1 ≠ n2) (hlt : x1 * y2 < x2 * y1) :
    Calls Tryz.prog 43 #[.agg #[.bool n1, .string (Sp.dec x1), .string (Sp.dec y1)], .agg #[.bool n2, .string (Sp.dec x2), .string (Sp.dec y2)]] w fun e w' => e = .returned (.tuple #[.agg #[.bool (Sp.okR (mkRat (sg n2 (x2 * y1 - x1 * y2)) (y1 * y2))).1, .string (Sp.okR (mkRat (sg n2 (x2 * y1 - x1 * y2)) (y1 * y2))).2.1, .string (Sp.okR (mkRat (sg n2 (x2 * y1 - x1 * y2)) (y1 * y2))).2.2.1], .int .i64 0]) ∧ Below w.heap.size w w' := by
  obtain ⟨r1, hx⟩ := mulT_dec h1 h4
  obtain ⟨r2, hy⟩ := mulT_dec h3 h2
  obtain ⟨r3, hz⟩ := mulT_dec h2 h4
  have hp := p280
  have hx3 : x1 * y2 < 10 ^ 300 := by generalize 10 ^ 280 = P at *; generalize 10 ^ 300 = Q at *; omega
  have hy3 : x2 * y1 < 10 ^ 300 := by generalize 10 ^ 280 = P at *; generalize 10 ^ 300 = Q at *; omega
  have hz3 : y1 * y2 < 10 ^ 300 := by generalize 10 ^ 280 = P at *; generalize 10 ^ 300 = Q at *; omega
  have hne : (n1 == n2) = false := beq_eq_false_iff_ne.2 hn
  have hc := cmp_val hx3 hy3
  rw [if_pos hlt] at hc
  have HCMP := Lib.hid (fun w => natural_Compare.calls _ _ _ _ w hc)
  have hs := sub_val hy3 hx3 (Nat.le_of_lt hlt)
  have HSUB := Lib.hid (fun w hT => natural_Sub.calls _ _ _ _ w hT hs)
  have hlow := lowest_val n2 (x2 * y1 - x1 * y2) (y1 * y2) (Nat.mul_ne_zero h5 h6) (Nat.lt_of_le_of_lt (Nat.sub_le _ _) hy3) hz3
  have HLOW := Lib.hid (fun w hT => ratio_lowest.calls _ _ _ _ _ _ _ w hT hlow)
  clear hc hs hlow hlt hn
  generalize Sp.dec x1 = a1 at *
  generalize Sp.dec x2 = a2 at *
  generalize Sp.dec y1 = b1 at *
  generalize Sp.dec y2 = b2 at *
  generalize Sp.dec (x1 * y2) = m1 at *
  generalize Sp.dec (x2 * y1) = m2 at *
  generalize Sp.dec (y1 * y2) = m3 at *
  have HT := Lib.hid hTab
  have R1 := Lib.hid r1
  have R2 := Lib.hid r2
  have R3 := Lib.hid r3
  clear hTab r1 r2 r3 hx hy hz hx3 hy3 hz3 hp h1 h2 h3 h4 h5 h6
  have hprod : ∀ W : World, W = (((w.alloc (.cells #[.bool n1, .string a1, .string b1] 31)).alloc (.cells #[.bool n2, .string a2, .string b2] 31)).alloc (.cells #[.bool false, .string ⟨#[]⟩, .string ⟨#[]⟩] 31)).alloc (.cells #[.string a1, .string b2, .string a2, .string b1, .string b1, .string b2] 66) →
      Calls Tryz.prog 62 #[.slice (some ⟨w.heap.size + 3, 0, none⟩) 3 3] W fun e w' => ∃ b off c, e = .returned (.slice (some ⟨b, off, none⟩) 3 c) ∧ w'.cell? ⟨b, off, none⟩ = some (.string m1) ∧ w'.cell? ⟨b, off + 1, none⟩ = some (.string m2) ∧ w'.cell? ⟨b, off + 2, none⟩ = some (.string m3) ∧
        w'.heap[w.heap.size]? = some (.cells #[.bool n1, .string a1, .string b1] 31 (0, 0)) ∧ w'.heap[w.heap.size + 1]? = some (.cells #[.bool n2, .string a2, .string b2] 31 (0, 0)) ∧ w'.heap[w.heap.size + 2]? = some (.cells #[.bool false, .string ⟨#[]⟩, .string ⟨#[]⟩] 31 (0, 0)) ∧ Below w.heap.size w w' := fun W hW => by
    have hf := four w (.cells #[.bool n1, .string a1, .string b1] 31) (.cells #[.bool n2, .string a2, .string b2] 31) (.cells #[.bool false, .string ⟨#[]⟩, .string ⟨#[]⟩] 31) (.cells #[.string a1, .string b2, .string a2, .string b1, .string b1, .string b2] 66)
    dsimp only at hf
    rw [← hW] at hf
    obtain ⟨hs, g0, g1, g2, g3, hb⟩ := hf
    refine (products_calls (w.heap.size + 3) [(a1, b2), (a2, b1), (b1, b2)] W (HT.out.below hb) (by omega) ?_ (by simp)).mono ?_
    · intro j hj
      have hj2 : j = 0 ∨ j = 1 ∨ j = 2 := by simp at hj; omega
      rcases hj2 with rfl | rfl | rfl
      · constructor <;> simp [World.cell?, g3, prs]
      · constructor <;> simp [World.cell?, g3, prs]
      · constructor <;> simp [World.cell?, g3, prs]
    · rintro e w' ⟨v, rfl, hR, hb2⟩
      have hm : ([(a1, b2), (a2, b1), (b1, b2)] : List (ByteArray × ByteArray)).map mulT = [m1, m2, m3] := by rw [List.map_cons, List.map_cons, List.map_cons, R1.out, R2.out, R3.out]; rfl
      rw [hm] at hR
      obtain ⟨A, c, rfl⟩ := Kd.R_slice hR
      obtain ⟨_, _, hC⟩ := Kd.R_reads' hR
      obtain ⟨b, off, rfl, hlt, hcs⟩ := str_cells hC (by simp)
      exact ⟨b, off, c, rfl, hcs 0 m1 rfl, hcs 1 m2 rfl, hcs 2 m3 rfl, (hb2.block _ (by omega)).trans g0, (hb2.block _ (by omega)).trans g1, (hb2.block _ (by omega)).trans g2, hb.trans (hb2.mono (by omega))⟩
  have HP := Lib.hid hprod
  clear hprod
  go_enter Tryz.func43, Tryz.ntmps43
  go_wp2_with (go_at_call 62; refine (HP.out _ rfl).mono ?_; rintro e w1 ⟨b, off, c, rfl, hc0, hc1, hc2, g0, g1, g2, hb⟩)
  go_region_held3 (fun W => (W.cell? ⟨b, off, none⟩ = some (.string m1) ∧ W.cell? ⟨b, off + 1, none⟩ = some (.string m2)) ∧ W.cell? ⟨b, off + 2, none⟩ = some (.string m3)) (exact ⟨⟨hc0, hc1⟩, hc2⟩) (fail)
  have hN0 : w.heap.size < w1.heap.size := (Array.getElem?_eq_some_iff.1 g0).1
  have hN1 : w.heap.size + 1 < w1.heap.size := (Array.getElem?_eq_some_iff.1 g1).1
  have hN2 : w.heap.size + 1 + 1 < w1.heap.size := (Array.getElem?_eq_some_iff.1 g2).1
  have c0 := (box3 g0).1
  have c1 := (box3 g1).1
  have G2 := Lib.hid g2
  have HB := Lib.hid hb
  have HB0 : Hid (Below w1.heap.size w1 w1.drew) := Lib.hid (Below.refl _ w1).drew
  clear hc0 hc1 hc2 g0 g1 g2 hb
  have k00 := c0
  have k01 := c1
  go_wp2_with (first
    | (go_at_call 64; with_reducible refine (HCMP.out _ ).mono ?_; rintro e wn ⟨rfl, hb2⟩; have HB0 := Lib.hid (HB0.out.trans (hb2.mono HB0.out.size)); have c0 := (HB0.out.cell (p := ⟨w.heap.size, 0, none⟩) hN0).trans k00; have c1 := (HB0.out.cell (p := ⟨w.heap.size + 1, 0, none⟩) hN1).trans k01; clear hb2)
    | (go_at_call 65; with_reducible refine (HSUB.out _ (HT.out.below (HB.out.trans (HB0.out.mono HB.out.size)))).mono ?_; rintro e wn ⟨rfl, hb2⟩; have HB0 := Lib.hid (HB0.out.trans (hb2.mono HB0.out.size)); have c0 := (HB0.out.cell (p := ⟨w.heap.size, 0, none⟩) hN0).trans k00; have c1 := (HB0.out.cell (p := ⟨w.heap.size + 1, 0, none⟩) hN1).trans k01; clear hb2)
    | (go_at_call 58; with_reducible refine (HLOW.out _ (HT.out.below (HB.out.trans (HB0.out.mono HB.out.size)))).mono ?_; rintro e wn ⟨rfl, hb2⟩; have HB0 := Lib.hid (HB0.out.trans (hb2.mono HB0.out.size)); have hg2 := box3 ((HB0.out.block _ hN2).trans G2.out); obtain ⟨k0, k1, k2, f0, f1, f2⟩ := hg2; clear hb2))
  refine bodyPost_ret (results_ct rfl _ _ (w.heap.size + 1 + 1) 31 _ (0, 0) _ rfl (set3 ((HB0.out.block _ hN2).trans G2.out) _ _ _) Tryz.underlying31 rfl (by kernel_rfl)) rfl ?_
  exact ⟨rfl, (((HB.out.trans (HB0.out.mono HB.out.size)).setCell (p := ⟨w.heap.size + 1 + 1, 0, none⟩) (by show _ ≤ w.heap.size + 1 + 1; omega) _).setCell (p := ⟨w.heap.size + 1 + 1, 1, none⟩) (by show _ ≤ w.heap.size + 1 + 1; omega) _).setCell (p := ⟨w.heap.size + 1 + 1, 2, none⟩) (by show _ ≤ w.heap.size + 1 + 1; omega) _⟩
set_option maxRecDepth 100000 in
set_option maxHeartbeats 2000000 in
theorem sum_more (n1 n2 : Bool) (x1 y1 x2 y2 : Nat) (w : World) (hTab : Tab w) (h1 : x1 < 10 ^ 140) (h2 : y1 < 10 ^ 140) (h3 : x2 < 10 ^ 140) (h4 : y2 < 10 ^ 140) (h5 : y1 ≠ 0) (h6 : y2 ≠ 0) (hn : n1 ≠ n2) (hlt : ¬ x1 * y2 < x2 * y1) :
    Calls Tryz.prog 43 #[.agg #[.bool n1, .string (Sp.dec x1), .string (Sp.dec y1)], .agg #[.bool n2, .string (Sp.dec x2), .string (Sp.dec y2)]] w fun e w' => e = .returned (.tuple #[.agg #[.bool (Sp.okR (mkRat (sg n1 (x1 * y2 - x2 * y1)) (y1 * y2))).1, .string (Sp.okR (mkRat (sg n1 (x1 * y2 - x2 * y1)) (y1 * y2))).2.1, .string (Sp.okR (mkRat (sg n1 (x1 * y2 - x2 * y1)) (y1 * y2))).2.2.1], .int .i64 0]) ∧ Below w.heap.size w w' := by
  obtain ⟨r1, hx⟩ := mulT_dec h1 h4
  obtain ⟨r2, hy⟩ := mulT_dec h3 h2
  obtain ⟨r3, hz⟩ := mulT_dec h2 h4
  have hp := p280
  have hx3 : x1 * y2 < 10 ^ 300 := by generalize 10 ^ 280 = P at *; generalize 10 ^ 300 = Q at *; omega
  have hy3 : x2 * y1 < 10 ^ 300 := by generalize 10 ^ 280 = P at *; generalize 10 ^ 300 = Q at *; omega
  have hz3 : y1 * y2 < 10 ^ 300 := by generalize 10 ^ 280 = P at *; generalize 10 ^ 300 = Q at *; omega
  have hne : (n1 == n2) = false := beq_eq_false_iff_ne.2 hn
  have hc := cmp_val hx3 hy3
  rw [if_neg hlt] at hc
  obtain ⟨z, hz0, hz1⟩ : ∃ z : Int, z = (if x2 * y1 < x1 * y2 then 1 else 0) ∧ ¬ z < 0 := ⟨_, rfl, by split <;> omega⟩
  rw [← hz0] at hc
  have HCMP := Lib.hid (fun w => natural_Compare.calls _ _ _ _ w hc)
  have hs := sub_val hx3 hy3 (by omega)
  have HSUB := Lib.hid (fun w hT => natural_Sub.calls _ _ _ _ w hT hs)
  have hlow := lowest_val n1 (x1 * y2 - x2 * y1) (y1 * y2) (Nat.mul_ne_zero h5 h6) (Nat.lt_of_le_of_lt (Nat.sub_le _ _) hx3) hz3
  have HLOW := Lib.hid (fun w hT => ratio_lowest.calls _ _ _ _ _ _ _ w hT hlow)
  clear hc hs hlow hlt hn hz0
  generalize Sp.dec x1 = a1 at *
  generalize Sp.dec x2 = a2 at *
  generalize Sp.dec y1 = b1 at *
  generalize Sp.dec y2 = b2 at *
  generalize Sp.dec (x1 * y2) = m1 at *
  generalize Sp.dec (x2 * y1) = m2 at *
  generalize Sp.dec (y1 * y2) = m3 at *
  have HT := Lib.hid hTab
  have R1 := Lib.hid r1
  have R2 := Lib.hid r2
  have R3 := Lib.hid r3
  clear hTab r1 r2 r3 hx hy hz hx3 hy3 hz3 hp h1 h2 h3 h4 h5 h6
  have hprod : ∀ W : World, W = (((w.alloc (.cells #[.bool n1, .string a1, .string b1] 31)).alloc (.cells #[.bool n2, .string a2, .string b2] 31)).alloc (.cells #[.bool false, .string ⟨#[]⟩, .string ⟨#[]⟩] 31)).alloc (.cells #[.string a1, .string b2, .string a2, .string b1, .string b1, .string b2] 66) →
      Calls Tryz.prog 62 #[.slice (some ⟨w.heap.size + 3, 0, none⟩) 3 3] W fun e w' => ∃ b off c, e = .returned (.slice (some ⟨b, off, none⟩) 3 c) ∧ w'.cell? ⟨b, off, none⟩ = some (.string m1) ∧ w'.cell? ⟨b, off + 1, none⟩ = some (.string m2) ∧ w'.cell? ⟨b, off + 2, none⟩ = some (.string m3) ∧
        w'.heap[w.heap.size]? = some (.cells #[.bool n1, .string a1, .string b1] 31 (0, 0)) ∧ w'.heap[w.heap.size + 1]? = some (.cells #[.bool n2, .string a2, .string b2] 31 (0, 0)) ∧ w'.heap[w.heap.size + 2]? = some (.cells #[.bool false, .string ⟨#[]⟩, .string ⟨#[]⟩] 31 (0, 0)) ∧ Below w.heap.size w w' := fun W hW => by
    have hf := four w (.cells #[.bool n1, .string a1, .string b1] 31) (.cells #[.bool n2, .string a2, .string b2] 31) (.cells #[.bool false, .string ⟨#[]⟩, .string ⟨#[]⟩] 31) (.cells #[.string a1, .string b2, .string a2, .string b1, .string b1, .string b2] 66)
    dsimp only at hf
    rw [← hW] at hf
    obtain ⟨hs, g0, g1, g2, g3, hb⟩ := hf
    refine (products_calls (w.heap.size + 3) [(a1, b2), (a2, b1), (b1, b2)] W (HT.out.below hb) (by omega) ?_ (by simp)).mono ?_
    · intro j hj
      have hj2 : j = 0 ∨ j = 1 ∨ j = 2 := by simp at hj; omega
      rcases hj2 with rfl | rfl | rfl
      · constructor <;> simp [World.cell?, g3, prs]
      · constructor <;> simp [World.cell?, g3, prs]
      · constructor <;> simp [World.cell?, g3, prs]
    · rintro e w' ⟨v, rfl, hR, hb2⟩
      have hm : ([(a1, b2), (a2, b1), (b1, b2)] : List (ByteArray × ByteArray)).map mulT = [m1, m2, m3] := by rw [List.map_cons, List.map_cons, List.map_cons, R1.out, R2.out, R3.out]; rfl
      rw [hm] at hR
      obtain ⟨A, c, rfl⟩ := Kd.R_slice hR
      obtain ⟨_, _, hC⟩ := Kd.R_reads' hR
      obtain ⟨b, off, rfl, hlt, hcs⟩ := str_cells hC (by simp)
      exact ⟨b, off, c, rfl, hcs 0 m1 rfl, hcs 1 m2 rfl, hcs 2 m3 rfl, (hb2.block _ (by omega)).trans g0, (hb2.block _ (by omega)).trans g1, (hb2.block _ (by omega)).trans g2, hb.trans (hb2.mono (by omega))⟩
  have HP := Lib.hid hprod
  clear hprod
  go_enter Tryz.func43, Tryz.ntmps43
  go_wp2_with (go_at_call 62; refine (HP.out _ rfl).mono ?_; rintro e w1 ⟨b, off, c, rfl, hc0, hc1, hc2, g0, g1, g2, hb⟩)
  go_region_held3 (fun W => (W.cell? ⟨b, off, none⟩ = some (.string m1) ∧ W.cell? ⟨b, off + 1, none⟩ = some (.string m2)) ∧ W.cell? ⟨b, off + 2, none⟩ = some (.string m3)) (exact ⟨⟨hc0, hc1⟩, hc2⟩) (fail)
  have hN0 : w.heap.size < w1.heap.size := (Array.getElem?_eq_some_iff.1 g0).1
  have hN1 : w.heap.size + 1 < w1.heap.size := (Array.getElem?_eq_some_iff.1 g1).1
  have hN2 : w.heap.size + 1 + 1 < w1.heap.size := (Array.getElem?_eq_some_iff.1 g2).1
  have c0 := (box3 g0).1
  have c1 := (box3 g1).1
  have G2 := Lib.hid g2
  have HB := Lib.hid hb
  have HB0 : Hid (Below w1.heap.size w1 w1.drew) := Lib.hid (Below.refl _ w1).drew
  clear hc0 hc1 hc2 g0 g1 g2 hb
  have k00 := c0
  have k01 := c1
  go_wp2_with (first
    | (go_at_call 64; with_reducible refine (HCMP.out _ ).mono ?_; rintro e wn ⟨rfl, hb2⟩; have HB0 := Lib.hid (HB0.out.trans (hb2.mono HB0.out.size)); have c0 := (HB0.out.cell (p := ⟨w.heap.size, 0, none⟩) hN0).trans k00; have c1 := (HB0.out.cell (p := ⟨w.heap.size + 1, 0, none⟩) hN1).trans k01; clear hb2)
    | (go_at_call 65; with_reducible refine (HSUB.out _ (HT.out.below (HB.out.trans (HB0.out.mono HB.out.size)))).mono ?_; rintro e wn ⟨rfl, hb2⟩; have HB0 := Lib.hid (HB0.out.trans (hb2.mono HB0.out.size)); have c0 := (HB0.out.cell (p := ⟨w.heap.size, 0, none⟩) hN0).trans k00; have c1 := (HB0.out.cell (p := ⟨w.heap.size + 1, 0, none⟩) hN1).trans k01; clear hb2)
    | (go_at_call 58; with_reducible refine (HLOW.out _ (HT.out.below (HB.out.trans (HB0.out.mono HB.out.size)))).mono ?_; rintro e wn ⟨rfl, hb2⟩; have HB0 := Lib.hid (HB0.out.trans (hb2.mono HB0.out.size)); have hg2 := box3 ((HB0.out.block _ hN2).trans G2.out); obtain ⟨k0, k1, k2, f0, f1, f2⟩ := hg2; clear hb2))
  refine bodyPost_ret (results_ct rfl _ _ (w.heap.size + 1 + 1) 31 _ (0, 0) _ rfl (set3 ((HB0.out.block _ hN2).trans G2.out) _ _ _) Tryz.underlying31 rfl (by kernel_rfl)) rfl ?_
  exact ⟨rfl, (((HB.out.trans (HB0.out.mono HB.out.size)).setCell (p := ⟨w.heap.size + 1 + 1, 0, none⟩) (by show _ ≤ w.heap.size + 1 + 1; omega) _).setCell (p := ⟨w.heap.size + 1 + 1, 1, none⟩) (by show _ ≤ w.heap.size + 1 + 1; omega) _).setCell (p := ⟨w.heap.size + 1 + 1, 2, none⟩) (by show _ ≤ w.heap.size + 1 + 1; omega) _⟩
end Go.Proofs.YtmkanjcehhbmlaaGreatDoor.Pr
end
