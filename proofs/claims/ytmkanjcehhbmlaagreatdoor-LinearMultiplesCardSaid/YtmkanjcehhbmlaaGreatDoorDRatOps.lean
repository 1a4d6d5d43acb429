/- The contracts of ratio.product and ratio.sum. -/
import Derived.Deep.RegionWith
import Derived.Deep.RegionHeld3
import Derived.Test.YtmkanjcehhbmlaaGreatDoorDBuild
import Derived.Test.YtmkanjcehhbmlaaGreatDoorDFmt
import Derived.Test.YtmkanjcehhbmlaaGreatDoorDGN
import Derived.Test.YtmkanjcehhbmlaaGreatDoorDGN2
import Derived.Test.YtmkanjcehhbmlaaGreatDoorDGN3
import Derived.Test.YtmkanjcehhbmlaaGreatDoorDGW
import Derived.Test.YtmkanjcehhbmlaaGreatDoorDGW2
import Derived.Test.YtmkanjcehhbmlaaGreatDoorDNatApply
import Derived.Test.YtmkanjcehhbmlaaGreatDoorDNatS
import Derived.Test.YtmkanjcehhbmlaaGreatDoorDNum
import Derived.Test.YtmkanjcehhbmlaaGreatDoorDNumAdd
import Derived.Test.YtmkanjcehhbmlaaGreatDoorDNumCmp
import Derived.Test.YtmkanjcehhbmlaaGreatDoorDNumDiv
import Derived.Test.YtmkanjcehhbmlaaGreatDoorDNumIs
import Derived.Test.YtmkanjcehhbmlaaGreatDoorDNumMul
import Derived.Test.YtmkanjcehhbmlaaGreatDoorDNumOps
import Derived.Test.YtmkanjcehhbmlaaGreatDoorDNumParse
import Derived.Test.YtmkanjcehhbmlaaGreatDoorDNumText
import Derived.Test.YtmkanjcehhbmlaaGreatDoorDNumVal
import Derived.Test.YtmkanjcehhbmlaaGreatDoorDPrA1
import Derived.Test.YtmkanjcehhbmlaaGreatDoorDPrA11
import Derived.Test.YtmkanjcehhbmlaaGreatDoorDPrA4
import Derived.Test.YtmkanjcehhbmlaaGreatDoorDPrA5
import Derived.Test.YtmkanjcehhbmlaaGreatDoorDPrB1
import Derived.Test.YtmkanjcehhbmlaaGreatDoorDPrB2
import Derived.Test.YtmkanjcehhbmlaaGreatDoorDRatProd
import Derived.Test.YtmkanjcehhbmlaaGreatDoorDRatVal
import Derived.Test.YtmkanjcehhbmlaaGreatDoorDShelf
import Derived.Test.YtmkanjcehhbmlaaGreatDoorDSpec
import Derived.Test.YtmkanjcehhbmlaaGreatDoorDTab
import Derived.Test.YtmkanjcehhbmlaaGreatDoorDWLast
set_option linter.all false
section
namespace Go.Proofs.YtmkanjcehhbmlaaGreatDoor.Pr
set_option linter.unusedSimpArgs false
set_option linter.unusedVariables false
set_option exponentiation.threshold 400
open Go.RowKit Go.Shelf Go.Proofs.YtmkanjcehhbmlaaGreatDoorW.PrintWords Go.Proofs.YtmkanjcehhbmlaaGreatDoorW.PrintLast Go.Proofs.YtmkanjcehhbmlaaGreatDoorW.PrintMore
theorem mulT_dec {x y : Nat} (hx : x < 10 ^ 140) (hy : y < 10 ^ 140) : mulT (Sp.dec x, Sp.dec y) = Sp.dec (x * y) ∧ x * y < 10 ^ 280 := by
  have h1 : x * y < 10 ^ 280 := by
    have := Nat.mul_lt_mul_of_lt_of_le hx (Nat.le_of_lt hy) (by exact Nat.pow_pos (by omega))
    rwa [← Nat.pow_add] at this
  refine ⟨?_, h1⟩
  have p1 : (10 : Nat) ^ 140 ≤ 10 ^ 300 := Nat.pow_le_pow_right (by omega) (by omega)
  have p2 : (10 : Nat) ^ 280 ≤ 10 ^ 300 := Nat.pow_le_pow_right (by omega) (by omega)
  unfold mulT Sp.natOp
  rw [isNat_dec (Nat.lt_of_lt_of_le hx p1), isNat_dec (Nat.lt_of_lt_of_le hy p1), nval_dec, nval_dec]
  show (Sp.lim (x * y)).1 = _
  rw [lim_small (Nat.lt_of_lt_of_le h1 p2)]
theorem str_cells {w : World} {A : Option Addr} {xs : List ByteArray} (h : Kd.string.C w A xs.length xs) (h0 : 0 < xs.length) :
    ∃ b off, A = some ⟨b, off, none⟩ ∧ b < w.heap.size ∧ ∀ j x, xs[j]? = some x → w.cell? ⟨b, off + j, none⟩ = some (.string x) := by
  obtain ⟨ad, e, hc⟩ := h.2.2 h0
  have key : ∀ j x, xs[j]? = some x → w.cell? (ad.add j) = some (.string x) := fun j x hx => by
    obtain ⟨c, hl, hK, hcc⟩ := hc j x hx
    have hK' : c = [.string x] := hK
    subst hK'
    have := hcc 0 _ rfl
    rwa [show j * Kd.string.sz + 0 = j by show j * 1 + 0 = j; omega] at this
  have h00 := key 0 xs[0] (List.getElem?_eq_getElem h0)
  have hsp : ad.spot = none := by
    cases hs : ad.spot with
    | none => rfl
    | some x =>
      exfalso
      have e0 : ad.add 0 = ad := by simp [Addr.add]
      rw [e0] at h00
      unfold World.cell? at h00
      split at h00
      · rw [hs] at h00; simp at h00
      · simp at h00
  obtain ⟨b, off, sp⟩ := ad
  simp only at hsp
  subst hsp
  have ea : ∀ j, (⟨b, off, none⟩ : Addr).add j = ⟨b, off + j, none⟩ := fun j => by unfold Addr.add; split <;> simp_all
  refine ⟨b, off, e, ?_, fun j x hx => by rw [← ea]; exact key j x hx⟩
  rw [ea] at h00
  exact World.block_lt_of_cell? w _ h00
theorem four (w : World) (o0 o1 o2 o3 : Obj) : let W := (((w.alloc o0).alloc o1).alloc o2).alloc o3
    W.heap.size = w.heap.size + 4 ∧ W.heap[w.heap.size]? = some o0 ∧ W.heap[w.heap.size + 1]? = some o1 ∧ W.heap[w.heap.size + 2]? = some o2 ∧ W.heap[w.heap.size + 3]? = some o3 ∧ Below w.heap.size w W := by
  refine ⟨by simp, ?_, ?_, ?_, ?_, (((((Below.refl _ w).alloc (Nat.le_refl _) _).alloc (by simp) _).alloc (by simp; omega) _).alloc (by simp; omega) _)⟩
  all_goals simp only [alloc_heap, World.size_alloc]
  all_goals (repeat' split)
  all_goals first | rfl | (exfalso; omega) | (exfalso; exact ‹¬True› trivial)
theorem set3 {W : World} {B : Nat} {u0 u1 u2 : Value} {t : TypeId} (h : W.heap[B]? = some (.cells #[u0, u1, u2] t (0, 0))) (v0 v1 v2 : Value) :
    (((W.setCell ⟨B, 0, none⟩ v0).setCell ⟨B, 1, none⟩ v1).setCell ⟨B, 2, none⟩ v2).heap[B]? = some (.cells #[v0, v1, v2] t (0, 0)) := by
  simp [World.setCell, Array.getElem?_modify, h]
theorem box3 {W : World} {B : Nat} {b : Bool} {x y : ByteArray} {t : TypeId} (h : W.heap[B]? = some (.cells #[.bool b, .string x, .string y] t (0, 0))) :
    W.cell? ⟨B, 0, none⟩ = some (.bool b) ∧ W.cell? ⟨B, 1, none⟩ = some (.string x) ∧ W.cell? ⟨B, 2, none⟩ = some (.string y) ∧ W.frozen? ⟨B, 0, none⟩ = false ∧ W.frozen? ⟨B, 1, none⟩ = false ∧ W.frozen? ⟨B, 2, none⟩ = false := by
  refine ⟨?_, ?_, ?_, ?_, ?_, ?_⟩ <;> simp [World.cell?, World.frozen?, h]
set_option maxRecDepth 100000 in
set_option maxHeartbeats 2000000 in
theorem product_calls (n1 n2 : Bool) (x1 y1 x2 y2 : Nat) (w : World) (hTab : Tab w) (h1 : x1 < 10 ^ 140) (h2 : y1 < 10 ^ 140) (h3 : x2 < 10 ^ 140) (h4 : y2 < 10 ^ 140) (h5 : y1 ≠ 0) (h6 : y2 ≠ 0) :
    Calls Tryz.prog 41 #[.agg #[.bool n1, .string (Sp.dec x1), .string (Sp.dec y1)], .agg #[.bool n2, .string (Sp.dec x2), .string (Sp.dec y2)]] w fun e w' => e = .returned (.tuple #[.agg #[.bool (Sp.okR (mkRat (sg (n1 != n2) (x1 * x2)) (y1 * y2))).1, .string (Sp.okR (mkRat (sg (n1 != n2) (x1 * x2)) (y1 * y2))).2.1, .string (Sp.okR (mkRat (sg (n1 != n2) (x1 * x2)) (y1 * y2))).2.2.1], .int .i64 0]) ∧ Below w.heap.size w w' := by
  obtain ⟨r1, hx⟩ := mulT_dec h1 h3
  obtain ⟨r2, hy⟩ := mulT_dec h2 h4
  have p2 : (10 : Nat) ^ 280 ≤ 10 ^ 300 := Nat.pow_le_pow_right (by omega) (by omega)
  have hlow := lowest_val (n1 != n2) (x1 * x2) (y1 * y2) (Nat.mul_ne_zero h5 h6) (Nat.lt_of_lt_of_le hx p2) (Nat.lt_of_lt_of_le hy p2)
  have HLOW := Lib.hid (fun w hT => ratio_lowest.calls _ _ _ _ _ _ _ w hT hlow)
  generalize Sp.dec x1 = a1 at *
  generalize Sp.dec x2 = a2 at *
  generalize Sp.dec y1 = b1 at *
  generalize Sp.dec y2 = b2 at *
  generalize Sp.dec (x1 * x2) = m1 at *
  generalize Sp.dec (y1 * y2) = m2 at *
  have HT := Lib.hid hTab
  have R1 := Lib.hid r1
  have R2 := Lib.hid r2
  clear hlow hTab r1 r2 hx hy p2 h1 h2 h3 h4 h5 h6
  go_enter Tryz.func41, Tryz.ntmps41
  have hprod : ∀ w0 W : World, W = (((w.alloc (.cells #[.bool n1, .string a1, .string b1] 31)).alloc (.cells #[.bool n2, .string a2, .string b2] 31)).alloc (.cells #[.bool false, .string ⟨#[]⟩, .string ⟨#[]⟩] 31)).alloc (.cells #[.string a1, .string a2, .string b1, .string b2] 66) →
      Calls Tryz.prog 62 #[.slice (some ⟨w.heap.size + 3, 0, none⟩) 2 2] W fun e w' => ∃ b off c, e = .returned (.slice (some ⟨b, off, none⟩) 2 c) ∧ b < w'.heap.size ∧ w.heap.size + 3 < b ∧ w'.cell? ⟨b, off + 0, none⟩ = some (.string m1) ∧ w'.cell? ⟨b, off + 1, none⟩ = some (.string m2) ∧
        w'.heap[w.heap.size]? = some (.cells #[.bool n1, .string a1, .string b1] 31 (0, 0)) ∧ w'.heap[w.heap.size + 1]? = some (.cells #[.bool n2, .string a2, .string b2] 31 (0, 0)) ∧ w'.heap[w.heap.size + 2]? = some (.cells #[.bool false, .string ⟨#[]⟩, .string ⟨#[]⟩] 31 (0, 0)) ∧ Below w.heap.size w w' := fun w0 W hW => by
    have hf := four w (.cells #[.bool n1, .string a1, .string b1] 31) (.cells #[.bool n2, .string a2, .string b2] 31) (.cells #[.bool false, .string ⟨#[]⟩, .string ⟨#[]⟩] 31) (.cells #[.string a1, .string a2, .string b1, .string b2] 66)
    dsimp only at hf
    rw [← hW] at hf
    obtain ⟨hs, g0, g1, g2, g3, hb⟩ := hf
    refine (products_calls (w.heap.size + 3) [(a1, a2), (b1, b2)] W (HT.out.below hb) (by omega) ?_ (by simp)).mono ?_
    · intro j hj
      have hj2 : j = 0 ∨ j = 1 := by simp at hj; omega
      rcases hj2 with rfl | rfl
      · constructor <;> simp [World.cell?, g3, prs]
      · constructor <;> simp [World.cell?, g3, prs]
    · rintro e w' ⟨v, rfl, hR, hb2⟩
      have hm : ([(a1, a2), (b1, b2)] : List (ByteArray × ByteArray)).map mulT = [m1, m2] := by rw [List.map_cons, List.map_cons, R1.out, R2.out]; rfl
      rw [hm] at hR
      obtain ⟨A, c, rfl⟩ := Kd.R_slice hR
      obtain ⟨_, _, hC⟩ := Kd.R_reads' hR
      obtain ⟨b, off, rfl, hlt, hcs⟩ := str_cells hC (by simp)
      refine ⟨b, off, c, rfl, hlt, ?_, hcs 0 m1 rfl, hcs 1 m2 rfl, (hb2.block _ (by omega)).trans g0, (hb2.block _ (by omega)).trans g1, (hb2.block _ (by omega)).trans g2, hb.trans (hb2.mono (by omega))⟩
      have := hR.1 b rfl
      omega
  have HP := Lib.hid hprod
  clear hprod
  go_wp2_with (go_at_call 62; refine (HP.out w _ rfl).mono ?_; rintro e w1 ⟨b, off, c, rfl, hlt, hgt, hc0, hc1, g0, g1, g2, hb⟩)
  have hN0 : w.heap.size < w1.heap.size := (Array.getElem?_eq_some_iff.1 g0).1
  have hN1 : w.heap.size + 1 < w1.heap.size := (Array.getElem?_eq_some_iff.1 g1).1
  have hN2 : w.heap.size + 1 + 1 < w1.heap.size := (Array.getElem?_eq_some_iff.1 g2).1
  have hS : ∀ W, Below w1.heap.size w1 W → ((W.cell? ⟨w.heap.size, 0, none⟩ = some (.bool n1) ∧ W.cell? ⟨w.heap.size + 1, 0, none⟩ = some (.bool n2)) ∧ (W.cell? ⟨b, off, none⟩ = some (.string m1) ∧ W.cell? ⟨b, off + 1, none⟩ = some (.string m2))) ∧ Below w.heap.size w W := fun W hW =>
    ⟨⟨⟨(hW.cell (p := ⟨w.heap.size, 0, none⟩) hN0).trans (box3 g0).1, (hW.cell (p := ⟨w.heap.size + 1, 0, none⟩) hN1).trans (box3 g1).1⟩, (hW.cell (p := ⟨b, off, none⟩) hlt).trans hc0, (hW.cell (p := ⟨b, off + 1, none⟩) hlt).trans hc1⟩, hb.trans (hW.mono hb.size)⟩
  have hT : ∀ W0 : World, ∀ v0 v1 v2, Below w1.heap.size w1 W0 → (fun W => ((W.cell? ⟨w.heap.size, 0, none⟩ = some (.bool n1) ∧ W.cell? ⟨w.heap.size + 1, 0, none⟩ = some (.bool n2)) ∧ (W.cell? ⟨b, off, none⟩ = some (.string m1) ∧ W.cell? ⟨b, off + 1, none⟩ = some (.string m2))) ∧ Below w.heap.size w W) (((W0.setCell ⟨w.heap.size + 1 + 1, 0, none⟩ v0).setCell ⟨w.heap.size + 1 + 1, 1, none⟩ v1).setCell ⟨w.heap.size + 1 + 1, 2, none⟩ v2) := fun W0 v0 v1 v2 hW0 => by
    obtain ⟨⟨⟨s1, s2⟩, s3, s4⟩, s5⟩ := hS W0 hW0
    have key : ∀ (p : Addr) u, p.block ≠ w.heap.size + 1 + 1 → W0.cell? p = some u → (((W0.setCell ⟨w.heap.size + 1 + 1, 0, none⟩ v0).setCell ⟨w.heap.size + 1 + 1, 1, none⟩ v1).setCell ⟨w.heap.size + 1 + 1, 2, none⟩ v2).cell? p = some u := fun p u hp hu =>
      (World.cell?_of_block (w := W0) (a := p) ((Below.heap_setCell _ _ _ _ hp).trans ((Below.heap_setCell _ _ _ _ hp).trans (Below.heap_setCell _ _ _ _ hp)))).trans hu
    exact ⟨⟨⟨key _ _ (by show w.heap.size ≠ _; omega) s1, key _ _ (by show w.heap.size + 1 ≠ _; omega) s2⟩, key _ _ (by show b ≠ _; omega) s3, key _ _ (by show b ≠ _; omega) s4⟩, ((s5.setCell (p := ⟨w.heap.size + 1 + 1, 0, none⟩) (by show _ ≤ w.heap.size + 1 + 1; omega) _).setCell (p := ⟨w.heap.size + 1 + 1, 1, none⟩) (by show _ ≤ w.heap.size + 1 + 1; omega) _).setCell (p := ⟨w.heap.size + 1 + 1, 2, none⟩) (by show _ ≤ w.heap.size + 1 + 1; omega) _⟩
  have HTT := Lib.hid hT
  have HS := Lib.hid hS
  have G2 := Lib.hid g2
  have HB := Lib.hid hb
  clear hS hT hc0 hc1 g0 g1 g2 hb
  go_region_held3 (fun W => ((W.cell? ⟨w.heap.size, 0, none⟩ = some (.bool n1) ∧ W.cell? ⟨w.heap.size + 1, 0, none⟩ = some (.bool n2)) ∧ (W.cell? ⟨b, off, none⟩ = some (.string m1) ∧ W.cell? ⟨b, off + 1, none⟩ = some (.string m2))) ∧ Below w.heap.size w W)
    (first
      | exact HS.out _ (Below.refl _ w1).drew
      | exact HS.out _ hb12
      | exact HTT.out w2 _ _ _ hb12)
    (first
      | (go_at_call 58; rw [show (!(n1 == n2)) = (n1 != n2) from rfl]; with_reducible refine (HLOW.out _ (HT.out.below ?hbel)).mono ?_; (case hbel => exact (HS.out _ (Below.refl _ w1).drew).2); rintro e w2 ⟨rfl, hb2⟩; have hb12 : Below w1.heap.size w1 w2 := ((Below.refl _ w1).drew).trans (hb2.mono (Nat.le_refl _)); have hg2 := box3 ((hb12.block _ hN2).trans G2.out); obtain ⟨k0, k1, k2, f0, f1, f2⟩ := hg2))
  go_wp2
  refine bodyPost_ret (results_ct rfl _ _ (w.heap.size + 1 + 1) 31 _ (0, 0) _ rfl (set3 ((hb12.block _ hN2).trans G2.out) _ _ _) Tryz.underlying31 rfl (by kernel_rfl)) rfl ?_
  exact ⟨rfl, (HTT.out w2 _ _ _ hb12).2⟩
end Go.Proofs.YtmkanjcehhbmlaaGreatDoor.Pr
end
