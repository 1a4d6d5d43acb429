/- The contracts of natural.number.div and gcd, as numbers. The contract of natural.number.gcd. -/
import Derived.Deep.LoopGhost
import Derived.Test.YtmkanjcehhbmlaaGreatDoorDBuild
import Derived.Test.YtmkanjcehhbmlaaGreatDoorDFmt
import Derived.Test.YtmkanjcehhbmlaaGreatDoorDGN
import Derived.Test.YtmkanjcehhbmlaaGreatDoorDGN2
import Derived.Test.YtmkanjcehhbmlaaGreatDoorDGW
import Derived.Test.YtmkanjcehhbmlaaGreatDoorDGW2
import Derived.Test.YtmkanjcehhbmlaaGreatDoorDNum
import Derived.Test.YtmkanjcehhbmlaaGreatDoorDNumAdd
import Derived.Test.YtmkanjcehhbmlaaGreatDoorDNumCmp
import Derived.Test.YtmkanjcehhbmlaaGreatDoorDNumDiv
import Derived.Test.YtmkanjcehhbmlaaGreatDoorDNumMul
import Derived.Test.YtmkanjcehhbmlaaGreatDoorDNumOps
import Derived.Test.YtmkanjcehhbmlaaGreatDoorDNumParse
import Derived.Test.YtmkanjcehhbmlaaGreatDoorDNumText
import Derived.Test.YtmkanjcehhbmlaaGreatDoorDNumVal
import Derived.Test.YtmkanjcehhbmlaaGreatDoorDPrA4
import Derived.Test.YtmkanjcehhbmlaaGreatDoorDPrA5
import Derived.Test.YtmkanjcehhbmlaaGreatDoorDShelf
import Derived.Test.YtmkanjcehhbmlaaGreatDoorDSpec
import Derived.Test.YtmkanjcehhbmlaaGreatDoorDTab
import Derived.Test.YtmkanjcehhbmlaaGreatDoorDWLast
set_option linter.all false
section
namespace Go.Proofs.YtmkanjcehhbmlaaGreatDoor.Pr
set_option linter.unusedSimpArgs false
set_option linter.unusedVariables false
open Go.RowKit Go.Shelf Go.Proofs.YtmkanjcehhbmlaaGreatDoorW.PrintWords Go.Proofs.YtmkanjcehhbmlaaGreatDoorW.PrintLast Go.Proofs.YtmkanjcehhbmlaaGreatDoorW.PrintMore
theorem div_round {b T r x : Nat} (hb : 0 < b) (hr : r = T % b) : (x + 1000000000 * T) % b = (x + 1000000000 * r) % b ∧ (x + 1000000000 * T) / b = (x + 1000000000 * r) / b + 1000000000 * (T / b) := by
  have h1 : x + 1000000000 * T = (x + 1000000000 * r) + b * (1000000000 * (T / b)) := by
    have := Nat.div_add_mod T b
    rw [← hr] at this
    have h2 : b * (1000000000 * (T / b)) = 1000000000 * (b * (T / b)) := by rw [← Nat.mul_assoc, Nat.mul_comm b, Nat.mul_assoc]
    rw [h2]
    generalize b * (T / b) = u at *
    omega
  rw [h1]
  exact ⟨Nat.add_mul_mod_self_left _ _ _, Nat.add_mul_div_left _ _ hb⟩
theorem lval_drop {xs : List Int} (i : Nat) (h : i < xs.length) : lval (xs.drop i) = rd xs (i : Nat) + 1000000000 * lval (xs.drop (i + 1)) := by rw [rd_drop xs i h, lval]
theorem drop_set_lt (xs : List Int) (i j : Nat) (v : Int) (h : i < j) : (xs.set i v).drop j = xs.drop j := by
  rw [List.drop_set]
  rw [if_pos h]
theorem dfold_val {b : Nat} (hb : 0 < b) {xs : List Int} (hx : Limbs xs) : ∀ k, k ≤ xs.length → (dfold b xs (List.range k)).1 = (lval (xs.drop (xs.length - k))).toNat % b ∧
    lval ((dfold b xs (List.range k)).2.drop (xs.length - k)) = (((lval (xs.drop (xs.length - k))).toNat / b : Nat) : Int) ∧ ∀ j, j < xs.length - k → rd (dfold b xs (List.range k)).2 (j : Nat) = 0 := by
  intro k
  induction k with
  | zero =>
    intro _
    refine ⟨?_, ?_, ?_⟩
    · simp [dfold, lval]
    · rw [Nat.sub_zero, List.drop_of_length_le (by simp [dfold]), List.drop_length]; simp [lval]
    · intro j _
      exact rd_zeros _ _
  | succ k ih =>
    intro hk
    obtain ⟨h1, h2, h3⟩ := ih (by omega)
    have hlen := (dfold_lt hb xs (List.range k)).2
    have h0 := lval_nonneg (Limbs.drop hx (xs.length - k))
    rw [List.range_succ, dfold_snoc]
    generalize dfold b xs (List.range k) = st at h1 h2 h3 hlen ⊢
    obtain ⟨r, Q⟩ := st
    dsimp only at h1 h2 h3 hlen
    obtain ⟨i, hi⟩ : ∃ i, i = xs.length - 1 - k := ⟨_, rfl⟩
    rw [show xs.length - k = i + 1 by omega] at h1 h2 h3 h0
    rw [show xs.length - (k + 1) = i by omega]
    have hd := lval_drop (xs := xs) i (by omega)
    have hxi := hx.rd (i : Nat)
    obtain ⟨x, hxx⟩ : ∃ x : Nat, rd xs (i : Nat) = x := ⟨(rd xs (i : Nat)).toNat, by omega⟩
    obtain ⟨T, hT⟩ : ∃ T : Nat, lval (xs.drop (i + 1)) = T := ⟨(lval (xs.drop (i + 1))).toNat, by omega⟩
    rw [hxx, hT] at hd
    rw [hT] at h1 h2
    have e1 : (lval (xs.drop i)).toNat = x + 1000000000 * T := by omega
    have e2 : ((T : Int)).toNat = T := by simp
    rw [e2] at h1 h2
    have hdv : dval xs r k = x + 1000000000 * r := by unfold dval; rw [← hi, hxx]; rfl
    obtain ⟨g1, g2⟩ := div_round (x := x) hb h1
    unfold dstep
    dsimp only
    rw [hdv, e1, g1, g2, ← hi]
    refine ⟨rfl, ?_, ?_⟩
    · split
      · rename_i hlt
        rw [lval_drop i (by omega), h3 i (by omega), h2, Nat.div_eq_of_lt hlt]
        omega
      · rw [lval_drop i (by rw [List.length_set]; omega), drop_set_lt _ _ _ _ (by omega), h2, rd_set, if_pos ⟨rfl, by omega⟩]
        omega
    · intro j hj
      split
      · exact h3 j (by omega)
      · rw [rd_set, if_neg (by omega)]
        exact h3 j (by omega)
theorem div_num (A B : Option Addr) (n c m d a b : Nat) (w : World) (ha : NU w A n c a) (hb : NU w B m d b) (hb0 : 0 < b) (hr : n ≤ 1000) (hr2 : m ≤ 1000) :
    Calls Tryz.prog 87 #[.slice A n c, .slice B m d] w fun e w' => ∃ C k d' D l d2, e = .returned (.tuple #[.slice C k d', .slice D l d2]) ∧ NF w' w.heap.size C k d' (a / b) ∧ NF w' w.heap.size D l d2 (a % b) ∧ Below w.heap.size w w' := by
  have h := dfold_val hb0 (limbs_Limbs a) n (by rw [ha.len]; exact Nat.le_refl _)
  rw [ha.len, Nat.sub_self, List.drop_zero, List.drop_zero, lval_limbs, ← ha.len] at h
  have := div_walk A B n c m d a b w ha hb hb0 hr hr2
  rw [h.1, h.2.1] at this
  exact this
end Go.Proofs.YtmkanjcehhbmlaaGreatDoor.Pr
end

section
namespace Go.Proofs.YtmkanjcehhbmlaaGreatDoor.Pr
set_option linter.unusedSimpArgs false
set_option linter.unusedVariables false
open Go.RowKit Go.Shelf Go.Proofs.YtmkanjcehhbmlaaGreatDoorW.PrintWords Go.Proofs.YtmkanjcehhbmlaaGreatDoorW.PrintLast Go.Proofs.YtmkanjcehhbmlaaGreatDoorW.PrintMore
set_option maxHeartbeats 4000000 in
set_option maxRecDepth 1000000 in
theorem gcd_num (A B : Option Addr) (n c m d a b : Nat) (w : World) (ha : NU w A n c a) (hb : NU w B m d b) (hr : n ≤ 1000) (hr2 : m ≤ 1000) :
    Calls Tryz.prog 61 #[.slice A n c, .slice B m d] w fun e w' => ∃ C k d', e = .returned (.slice C k d') ∧ NU w' C k d' (Nat.gcd a b) ∧ k ≤ 1000 ∧ Below w.heap.size w w' := by
  have HA := Lib.hid ha
  have HB := Lib.hid hb
  clear ha hb
  go_enter Tryz.func61, Tryz.ntmps61
  go_wp2
  go_loopg [0, 1] b (fun kx v0 v1 wr => ∃ (A' : Option Addr) (n' c' : Nat) (B' : Option Addr) (m' d' x y : Nat), v0 = .slice A' n' c' ∧ v1 = .slice B' m' d' ∧ y ≤ kx ∧ n' ≤ 1000 ∧ m' ≤ 1000 ∧ Hid (NU wr A' n' c' x) ∧ Hid (NU wr B' m' d' y) ∧ Hid (Nat.gcd x y = Nat.gcd a b) ∧ Hid (Below w.heap.size w wr))
  case atStart => exact ⟨A, n, c, B, m, d, a, b, rfl, rfl, Nat.le_refl _, hr, hr2, HA, HB, Lib.hid rfl, Lib.hid (Below.refl _ _)⟩
  case round =>
    obtain ⟨A', n', c', B', m', d', x, y, rfl, rfl, hy, hn, hm, HX, HY, HG, HW⟩ := hrel
    by_cases h0 : m' = 0
    · subst h0
      have hy0 : y = 0 := (limbs_nil_iff y).1 HY.out.len.symm
      go_wp2
      go_ret
      refine ⟨A', n', c', rfl, ?_, hn, HW.out⟩
      have := HG.out
      rw [hy0, Nat.gcd_zero_right] at this
      rw [← this]
      exact HX.out
    · have hm0 : 0 < m' := by omega
      have hy0 : 0 < y := by
        rcases Nat.eq_zero_or_pos y with h | h
        · have := (limbs_nil_iff y).2 h
          rw [← HY.out.len] at this
          omega
        · exact h
      have hlt : Hid (x % y < y) := Lib.hid (Nat.mod_lt _ hy0)
      go_wp2_with (go_at_call 87; refine (div_num A' B' n' c' m' d' x y _ HX.out HY.out hy0 hn hm).mono ?_; rintro e w1 ⟨C, k, d1, D, l, d2, rfl, hC, hD, hb1⟩; have HD := Lib.hid hD; have HB1 := Lib.hid hb1; clear hC hD hb1)
      go_roundg (x % y)
      case measure => have := hlt.out; omega
      case rel =>
        refine ⟨B', m', d', D, l, d2, y, x % y, rfl, rfl, Nat.le_refl _, hm, ?_, Lib.hid (HY.out.below HB1.out), Lib.hid HD.out.nu, Lib.hid ?_, Lib.hid (HW.out.trans (HB1.out.mono HW.out.size))⟩
        · rw [HD.out.len]
          have := limbs_len_mono (Nat.le_of_lt hlt.out)
          rw [← HY.out.len] at this
          omega
        · rw [Nat.gcd_comm, ← Nat.gcd_rec, Nat.gcd_comm]
          exact HG.out
end Go.Proofs.YtmkanjcehhbmlaaGreatDoor.Pr
end
