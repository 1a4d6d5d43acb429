/- The contract of natural.apply. -/
import Derived.Test.YtmkanjcehhbmlaaGreatDoorDBuild
import Derived.Test.YtmkanjcehhbmlaaGreatDoorDFmt
import Derived.Test.YtmkanjcehhbmlaaGreatDoorDGN
import Derived.Test.YtmkanjcehhbmlaaGreatDoorDGN2
import Derived.Test.YtmkanjcehhbmlaaGreatDoorDGN3
import Derived.Test.YtmkanjcehhbmlaaGreatDoorDGW
import Derived.Test.YtmkanjcehhbmlaaGreatDoorDGW2
import Derived.Test.YtmkanjcehhbmlaaGreatDoorDNum
import Derived.Test.YtmkanjcehhbmlaaGreatDoorDNumAdd
import Derived.Test.YtmkanjcehhbmlaaGreatDoorDNumCmp
import Derived.Test.YtmkanjcehhbmlaaGreatDoorDNumDiv
import Derived.Test.YtmkanjcehhbmlaaGreatDoorDNumIs
import Derived.Test.YtmkanjcehhbmlaaGreatDoorDNumMul
import Derived.Test.YtmkanjcehhbmlaaGreatDoorDNumOps
import Derived.Test.YtmkanjcehhbmlaaGreatDoorDNumParse
import Derived.Test.YtmkanjcehhbmlaaGreatDoorDNumText
import Derived.Test.YtmkanjcehhbmlaaGreatDoorDNumVal
import Derived.Test.YtmkanjcehhbmlaaGreatDoorDPrA4
import Derived.Test.YtmkanjcehhbmlaaGreatDoorDPrA5
import Derived.Test.YtmkanjcehhbmlaaGreatDoorDShelf
import Derived.Test.YtmkanjcehhbmlaaGreatDoorDSpec
import Derived.Test.YtmkanjcehhbmlaaGreatDoorDTab
import Derived.Test.YtmkanjcehhbmlaaGreatDoorDWLast
set_option linter.all false
set_option exponentiation.threshold 1200
section
namespace Go.Proofs.YtmkanjcehhbmlaaGreatDoor.Pr
set_option linter.unusedSimpArgs false
set_option linter.unusedVariables false
open Go.RowKit Go.Shelf Go.Proofs.YtmkanjcehhbmlaaGreatDoorW.PrintWords Go.Proofs.YtmkanjcehhbmlaaGreatDoorW.PrintLast Go.Proofs.YtmkanjcehhbmlaaGreatDoorW.PrintMore
theorem isNat_digs {s : ByteArray} (h : Sp.isNat s = true) : (∀ c ∈ s.data.toList, Sp.isDig c = true) ∧ s.size ≤ 300 ∧ 0 < s.size := by
  unfold Sp.isNat Sp.isNatL at h
  simp only [Bool.and_eq_true, decide_eq_true_eq, List.all_eq_true] at h
  refine ⟨h.1.2, h.1.1.2, ?_⟩
  have h1 := h.1.1.1
  rcases Nat.eq_zero_or_pos s.size with h0 | h0
  · have : s.data.toList = [] := List.eq_nil_of_length_eq_zero h0
    rw [this] at h1
    cases h1
  · exact h0
theorem nval_lt {s : ByteArray} (h : Sp.isNat s = true) : Sp.nval s < 10 ^ 300 := by
  obtain ⟨h1, h2, _⟩ := isNat_digs h
  exact Nat.lt_of_lt_of_le (nvalL_lt _ h1) (Nat.pow_le_pow_right (by omega) h2)
theorem len34 {x : Nat} (h : x < 10 ^ 300) : (limbs x).length ≤ 34 := by
  refine limbs_len_le 34 x (Nat.lt_of_lt_of_le h ?_)
  rw [show (1000000000 : Nat) = 10 ^ 9 by rfl, ← Nat.pow_mul]
  exact Nat.pow_le_pow_right (by omega) (by omega)
set_option maxHeartbeats 1000000 in
set_option maxRecDepth 1000000 in
theorem apply_calls (g : Nat) (f : Nat → Nat → Nat) (a b : ByteArray) (w : World) (hTab : Tab w) (eg : ∀ args w, (callFunc g args).run Tryz.prog w = .ok (.enter g args) w)
    (hop : Sp.isNat a = true → Sp.isNat b = true → ∀ (W : World) A n c B m d, NU W A n c (Sp.nval a) → NU W B m d (Sp.nval b) → n ≤ 34 → m ≤ 34 → Calls Tryz.prog g #[.slice A n c, .slice B m d] W fun e w' => ∃ C k d', e = .returned (.slice C k d') ∧ NU w' C k d' (f (Sp.nval a) (Sp.nval b)) ∧ k ≤ 100000 ∧ Below W.heap.size W w') :
    Calls Tryz.prog 60 #[.string a, .string b, .func (.func g) #[] #[]] w fun e w' => e = .returned (.tuple #[.string (Sp.natOp a b fun x y => Sp.lim (f x y)).1, .int .i64 (Sp.natOp a b fun x y => Sp.lim (f x y)).2]) ∧ Below w.heap.size w w' := by
  have HT := Lib.hid hTab
  have HOP := Lib.hid hop
  have hb0 := Lib.hid (Below.refl w.heap.size w)
  clear hTab hop
  cases ha : Sp.isNat a
  · have hr : Sp.natOp a b (fun x y => Sp.lim (f x y)) = (Sp.e0, 1) := by unfold Sp.natOp; rw [ha]; rfl
    rw [hr]
    have HA := Lib.hid ha
    clear ha hr
    go_enter Tryz.func60, Tryz.ntmps60
    go_wp2_with (go_at_call 39; refine (is_calls _ _).mono ?_; rintro e w1 ⟨rfl, hb1⟩; rw [HA.out])
    go_ret2
    exact ⟨rfl, hb1⟩
  · cases hb : Sp.isNat b
    · have hr : Sp.natOp a b (fun x y => Sp.lim (f x y)) = (Sp.e0, 1) := by unfold Sp.natOp; rw [ha, hb]; rfl
      rw [hr]
      have HA := Lib.hid ha
      have HB := Lib.hid hb
      clear ha hr hb
      go_enter Tryz.func60, Tryz.ntmps60
      go_wp2_with (go_at_call 39; refine (is_calls _ _).mono ?_; rintro e w1 ⟨rfl, hb1⟩; (first | rw [HA.out] | rw [HB.out]); have hb0 := Lib.hid (hb0.out.trans (hb1.mono hb0.out.size)))
      go_ret2
      exact ⟨rfl, hb0.out⟩
    · have hr : Sp.natOp a b (fun x y => Sp.lim (f x y)) = Sp.lim (f (Sp.nval a) (Sp.nval b)) := by unfold Sp.natOp; rw [ha, hb]; rfl
      rw [hr]
      obtain ⟨da, la, _⟩ := isNat_digs ha
      obtain ⟨db, lb, _⟩ := isNat_digs hb
      have lla := len34 (nval_lt ha)
      have llb := len34 (nval_lt hb)
      have HA := Lib.hid ha
      have HB := Lib.hid hb
      have HDA := Lib.hid da
      have HDB := Lib.hid db
      clear ha hr hb da db
      go_enter Tryz.func60, Tryz.ntmps60
      go_wp2_with (first
        | (go_at_call 39; refine (is_calls _ _).mono ?_; rintro e w1 ⟨rfl, hb1⟩; (first | rw [HA.out] | rw [HB.out]); have hb0 := Lib.hid (hb0.out.trans (hb1.mono hb0.out.size)); clear hb1)
        | (go_at_call 85; with_reducible refine (parse_num a _ HDA.out ?hl).mono ?_; (case hl => omega); rintro e w2 ⟨Ca, ka, ca, rfl, hNa, hb1⟩; have hb0 := Lib.hid (hb0.out.trans (hb1.mono hb0.out.size)); clear hb1)
        | (go_at_call 85; with_reducible refine (parse_num b _ HDB.out ?hl).mono ?_; (case hl => omega); rintro e w3 ⟨Cb, kb, cb, rfl, hNb, hb1⟩; have hb0 := Lib.hid (hb0.out.trans (hb1.mono hb0.out.size)); have hNa3 := Lib.hid (hNa.below hb1); clear hb1))
      refine (HOP.out HA.out HB.out _ Ca ka ca Cb kb cb hNa3.out.nu hNb.nu (by rw [hNa3.out.len]; exact lla) (by rw [hNb.len]; exact llb)).mono ?_
      rintro e w4 ⟨C, k, d', rfl, hN, hk, hb4⟩
      have hb0 := Lib.hid (hb0.out.trans (hb4.mono hb0.out.size))
      have HN := Lib.hid hN
      clear hN
      go_wp2_with (go_at_call 86; refine (text_num C k d' _ _ (HT.out.below hb0.out) HN.out hk).mono ?_; rintro e w5 ⟨rfl, hb5⟩)
      go_ret2
      exact ⟨rfl, hb0.out.trans (hb5.mono hb0.out.size)⟩
end Go.Proofs.YtmkanjcehhbmlaaGreatDoor.Pr
end
