/- The contracts of package natural. -/
import Derived.Test.YtmkanjcehhbmlaaGreatDoorDBuild
import Derived.Test.YtmkanjcehhbmlaaGreatDoorDFmt
import Derived.Test.YtmkanjcehhbmlaaGreatDoorDGN
import Derived.Test.YtmkanjcehhbmlaaGreatDoorDGN2
import Derived.Test.YtmkanjcehhbmlaaGreatDoorDGN3
import Derived.Test.YtmkanjcehhbmlaaGreatDoorDGW
import Derived.Test.YtmkanjcehhbmlaaGreatDoorDGW2
import Derived.Test.YtmkanjcehhbmlaaGreatDoorDNatApply
import Derived.Test.YtmkanjcehhbmlaaGreatDoorDNum
import Derived.Test.YtmkanjcehhbmlaaGreatDoorDNumAdd
import Derived.Test.YtmkanjcehhbmlaaGreatDoorDNumCmp
import Derived.Test.YtmkanjcehhbmlaaGreatDoorDNumDiv
import Derived.Test.YtmkanjcehhbmlaaGreatDoorDNumIs
import Derived.Test.YtmkanjcehhbmlaaGreatDoorDNumMul
import Derived.Test.YtmkanjcehhbmlaaGreatDoorDNumOps
import Derived.Test.YtmkanjcehhbmlaaGreatDoorDNumParse
import Derived.Test.YtmkanjcehhbmlaaGreatDoorDNumText
import Derived.Test.YtmkanjcehhbmlaaGreatDoorDNumVal
import Derived.Test.YtmkanjcehhbmlaaGreatDoorDPrA4
import Derived.Test.YtmkanjcehhbmlaaGreatDoorDPrA5
import Derived.Test.YtmkanjcehhbmlaaGreatDoorDShelf
import Derived.Test.YtmkanjcehhbmlaaGreatDoorDSpec
import Derived.Test.YtmkanjcehhbmlaaGreatDoorDTab
import Derived.Test.YtmkanjcehhbmlaaGreatDoorDWLast
set_option linter.all false
set_option exponentiation.threshold 1200
section
namespace Go.Proofs.YtmkanjcehhbmlaaGreatDoor.Pr
set_option linter.unusedSimpArgs false
set_option linter.unusedVariables false
open Go.RowKit Go.Shelf Go.Proofs.YtmkanjcehhbmlaaGreatDoorW.PrintWords Go.Proofs.YtmkanjcehhbmlaaGreatDoorW.PrintLast Go.Proofs.YtmkanjcehhbmlaaGreatDoorW.PrintMore
def natural_Is.f (a : ByteArray) : Option Bool := some (Sp.isNat a)
def natural_Mul.f (a b : ByteArray) : Option (ByteArray × Int) := some (Sp.natOp a b fun x y => Sp.lim (x * y))
def natural_Add.f (a b : ByteArray) : Option (ByteArray × Int) := some (Sp.natOp a b fun x y => Sp.lim (x + y))
def natural_Sub.f (a b : ByteArray) : Option (ByteArray × Int) := some (Sp.natOp a b fun x y => if x < y then (Sp.e0, 10) else (Sp.dec (x - y), 0))
def natural_Gcd.f (a b : ByteArray) : Option (ByteArray × Int) := some (Sp.natOp a b fun x y => (Sp.dec (Nat.gcd x y), 0))
def natural_Compare.f (a b : ByteArray) : Option (Int × Int) := some (if Sp.isNat a && Sp.isNat b then (if Sp.nval a < Sp.nval b then -1 else if Sp.nval b < Sp.nval a then 1 else 0, 0) else (0, 1))
def natural_Div.f (a b : ByteArray) : Option (ByteArray × ByteArray × Int) := some (if Sp.isNat a && Sp.isNat b then (if Sp.nval b = 0 then (Sp.e0, Sp.e0, 15) else (Sp.dec (Sp.nval a / Sp.nval b), Sp.dec (Sp.nval a % Sp.nval b), 0)) else (Sp.e0, Sp.e0, 1))
theorem lim_small {x : Nat} (h : x < 10 ^ 300) : Sp.lim x = (Sp.dec x, 0) := by unfold Sp.lim; rw [if_pos h]
theorem natural_Is.calls (a : ByteArray) (r : Bool) (w : World) (h : natural_Is.f a = some r) :
    Calls Tryz.prog 39 #[.string a] w fun e w' => e = .returned (.bool r) ∧ Below w.heap.size w w' := by
  unfold natural_Is.f at h
  obtain rfl := Option.some.inj h
  exact is_calls a w
theorem addop (a b : Nat) (W : World) (A : Option Addr) (n c : Nat) (B : Option Addr) (m d : Nat) (h1 : NU W A n c a) (h2 : NU W B m d b) (hn : n ≤ 34) (hm : m ≤ 34) (ha : a < 10 ^ 300) (hb : b < 10 ^ 300) :
    Calls Tryz.prog 89 #[.slice A n c, .slice B m d] W fun e w' => ∃ C k d', e = .returned (.slice C k d') ∧ NU w' C k d' (a + b) ∧ k ≤ 100000 ∧ Below W.heap.size W w' := by
  refine (add_num A B n c m d a b W h1 h2 (by omega) (by omega)).mono ?_
  rintro e w' ⟨C, k, d', rfl, hN, hb'⟩
  refine ⟨C, k, d', rfl, hN.nu, ?_, hb'⟩
  rw [hN.len]
  have : (limbs (a + b)).length ≤ 1000 := limbs_len_le _ _ (Nat.lt_of_lt_of_le (show a + b < 1000000000 ^ 68 by
    rw [show (1000000000 : Nat) = 10 ^ 9 by rfl, ← Nat.pow_mul]
    have : 10 ^ 300 * 10 ≤ 10 ^ (9 * 68) := by rw [← Nat.pow_succ]; exact Nat.pow_le_pow_right (by omega) (by omega)
    generalize 10 ^ (9 * 68) = P at *
    generalize 10 ^ 300 = Q at *
    omega) (Nat.pow_le_pow_right (by omega) (by omega)))
  omega
theorem mulop (a b : Nat) (W : World) (A : Option Addr) (n c : Nat) (B : Option Addr) (m d : Nat) (h1 : NU W A n c a) (h2 : NU W B m d b) (hn : n ≤ 34) (hm : m ≤ 34) (ha : a < 10 ^ 300) (hb : b < 10 ^ 300) :
    Calls Tryz.prog 118 #[.slice A n c, .slice B m d] W fun e w' => ∃ C k d', e = .returned (.slice C k d') ∧ NU w' C k d' (a * b) ∧ k ≤ 100000 ∧ Below W.heap.size W w' := by
  refine (mul_num A B n c m d a b W h1 h2 (by omega) (by omega)).mono ?_
  rintro e w' ⟨C, k, d', rfl, hN, hb'⟩
  refine ⟨C, k, d', rfl, hN.nu, ?_, hb'⟩
  rw [hN.len]
  have : (limbs (a * b)).length ≤ 68 := limbs_len_le _ _ (by
    rw [show (1000000000 : Nat) = 10 ^ 9 by rfl, ← Nat.pow_mul]
    have h3 : a * b ≤ 10 ^ 300 * 10 ^ 300 := Nat.mul_le_mul (Nat.le_of_lt ha) (Nat.le_of_lt hb)
    rw [← Nat.pow_add] at h3
    exact Nat.lt_of_le_of_lt h3 (Nat.pow_lt_pow_right (by omega) (by omega)))
  omega
theorem subop (a b : Nat) (W : World) (A : Option Addr) (n c : Nat) (B : Option Addr) (m d : Nat) (h1 : NU W A n c a) (h2 : NU W B m d b) (hn : n ≤ 34) (hm : m ≤ 34) (ha : a < 10 ^ 300) (hab : b ≤ a) :
    Calls Tryz.prog 91 #[.slice A n c, .slice B m d] W fun e w' => ∃ C k d', e = .returned (.slice C k d') ∧ NU w' C k d' (a - b) ∧ k ≤ 100000 ∧ Below W.heap.size W w' := by
  refine (sub_num A B n c m d a b W h1 h2 hab (by omega) (by omega)).mono ?_
  rintro e w' ⟨C, k, d', rfl, hN, hb'⟩
  refine ⟨C, k, d', rfl, hN.nu, ?_, hb'⟩
  rw [hN.len]
  have := len34 (Nat.lt_of_le_of_lt (Nat.sub_le a b) ha)
  omega
theorem gcdop (a b : Nat) (W : World) (A : Option Addr) (n c : Nat) (B : Option Addr) (m d : Nat) (h1 : NU W A n c a) (h2 : NU W B m d b) (hn : n ≤ 34) (hm : m ≤ 34) :
    Calls Tryz.prog 61 #[.slice A n c, .slice B m d] W fun e w' => ∃ C k d', e = .returned (.slice C k d') ∧ NU w' C k d' (Nat.gcd a b) ∧ k ≤ 100000 ∧ Below W.heap.size W w' := by
  refine (gcd_num A B n c m d a b W h1 h2 (by omega) (by omega)).mono ?_
  rintro e w' ⟨C, k, d', rfl, hN, hk, hb'⟩
  exact ⟨C, k, d', rfl, hN, by omega, hb'⟩
set_option maxHeartbeats 1000000 in
set_option maxRecDepth 100000 in
theorem natural_Mul.calls (a b : ByteArray) (r1 : ByteArray) (r2 : Int) (w : World) (hTab : Tab w) (h : natural_Mul.f a b = some (r1, r2)) :
    Calls Tryz.prog 88 #[.string a, .string b] w fun e w' => e = .returned (.tuple #[.string r1, .int .i64 r2]) ∧ Below w.heap.size w w' := by
  have H := apply_calls 118 (fun x y => x * y) a b w hTab (enters_of Tryz.func118 (by kernel_rfl) rfl) (fun ha hb W A n c B m d h1 h2 hn hm => mulop _ _ W A n c B m d h1 h2 hn hm (nval_lt ha) (nval_lt hb))
  have h2 : Sp.natOp a b (fun x y => Sp.lim (x * y)) = (r1, r2) := by
    unfold natural_Mul.f at h
    rw [← Option.some.inj h]
  rw [h2] at H
  have HH := Lib.hid H
  clear H hTab h h2
  go_enter Tryz.func88, Tryz.ntmps88
  go_wp2_with (go_at_call 60; refine HH.out.mono ?_; rintro e w1 ⟨rfl, hb1⟩)
  go_ret2
  exact ⟨rfl, hb1⟩
set_option maxHeartbeats 1000000 in
set_option maxRecDepth 100000 in
theorem natural_Add.calls (a b : ByteArray) (r1 : ByteArray) (r2 : Int) (w : World) (hTab : Tab w) (h : natural_Add.f a b = some (r1, r2)) :
    Calls Tryz.prog 63 #[.string a, .string b] w fun e w' => e = .returned (.tuple #[.string r1, .int .i64 r2]) ∧ Below w.heap.size w w' := by
  have H := apply_calls 89 (fun x y => x + y) a b w hTab (enters_of Tryz.func89 (by kernel_rfl) rfl) (fun ha hb W A n c B m d h1 h2 hn hm => addop _ _ W A n c B m d h1 h2 hn hm (nval_lt ha) (nval_lt hb))
  have h2 : Sp.natOp a b (fun x y => Sp.lim (x + y)) = (r1, r2) := by
    unfold natural_Add.f at h
    rw [← Option.some.inj h]
  rw [h2] at H
  have HH := Lib.hid H
  clear H hTab h h2
  go_enter Tryz.func63, Tryz.ntmps63
  go_wp2_with (go_at_call 60; refine HH.out.mono ?_; rintro e w1 ⟨rfl, hb1⟩)
  go_ret2
  exact ⟨rfl, hb1⟩
set_option maxHeartbeats 1000000 in
set_option maxRecDepth 100000 in
theorem natural_Gcd.calls (a b : ByteArray) (r1 : ByteArray) (r2 : Int) (w : World) (hTab : Tab w) (h : natural_Gcd.f a b = some (r1, r2)) :
    Calls Tryz.prog 40 #[.string a, .string b] w fun e w' => e = .returned (.tuple #[.string r1, .int .i64 r2]) ∧ Below w.heap.size w w' := by
  have H := apply_calls 61 (fun x y => Nat.gcd x y) a b w hTab (enters_of Tryz.func61 (by kernel_rfl) rfl) (fun ha hb W A n c B m d h1 h2 hn hm => gcdop _ _ W A n c B m d h1 h2 hn hm)
  have h2 : Sp.natOp a b (fun x y => Sp.lim (Nat.gcd x y)) = (r1, r2) := by
    unfold natural_Gcd.f at h
    rw [← Option.some.inj h]
    unfold Sp.natOp
    split
    · rename_i hab
      rw [Bool.and_eq_true] at hab
      refine lim_small ?_
      rcases Nat.eq_zero_or_pos (Sp.nval a) with h0 | h0
      · rw [h0, Nat.gcd_zero_left]; exact nval_lt hab.2
      · exact Nat.lt_of_le_of_lt (Nat.gcd_le_left _ h0) (nval_lt hab.1)
    · rfl
  rw [h2] at H
  have HH := Lib.hid H
  clear H hTab h h2
  go_enter Tryz.func40, Tryz.ntmps40
  go_wp2_with (go_at_call 60; refine HH.out.mono ?_; rintro e w1 ⟨rfl, hb1⟩)
  go_ret2
  exact ⟨rfl, hb1⟩
set_option maxHeartbeats 1000000 in
set_option maxRecDepth 100000 in
theorem natural_Compare.calls (a b : ByteArray) (r1 : Int) (r2 : Int) (w : World) (h : natural_Compare.f a b = some (r1, r2)) :
    Calls Tryz.prog 64 #[.string a, .string b] w fun e w' => e = .returned (.tuple #[.int .i64 r1, .int .i64 r2]) ∧ Below w.heap.size w w' := by
  unfold natural_Compare.f at h
  have h := Option.some.inj h
  have hb0 := Lib.hid (Below.refl w.heap.size w)
  cases ha : Sp.isNat a
  · rw [ha, Bool.false_and, if_neg (by decide)] at h
    cases h
    have HA := Lib.hid ha
    clear ha
    go_enter Tryz.func64, Tryz.ntmps64
    go_wp2_with (go_at_call 39; refine (is_calls _ _).mono ?_; rintro e w1 ⟨rfl, hb1⟩; rw [HA.out])
    go_ret2
    exact ⟨rfl, hb1⟩
  · cases hb : Sp.isNat b
    · rw [ha, hb, if_neg (by decide)] at h
      cases h
      have HA := Lib.hid ha
      have HB := Lib.hid hb
      clear ha hb
      go_enter Tryz.func64, Tryz.ntmps64
      go_wp2_with (go_at_call 39; refine (is_calls _ _).mono ?_; rintro e w1 ⟨rfl, hb1⟩; (first | rw [HA.out] | rw [HB.out]); have hb0 := Lib.hid (hb0.out.trans (hb1.mono hb0.out.size)); clear hb1)
      go_ret2
      exact ⟨rfl, hb0.out⟩
    · rw [ha, hb, Bool.true_and, if_pos rfl] at h
      obtain ⟨da, la, _⟩ := isNat_digs ha
      obtain ⟨db, lb, _⟩ := isNat_digs hb
      have lla := len34 (nval_lt ha)
      have llb := len34 (nval_lt hb)
      have hc : cmp3 (Sp.nval a) (Sp.nval b) = r1 ∧ (0 : Int) = r2 := by
        have := Prod.mk.inj h
        refine ⟨?_, this.2⟩
        rw [← this.1]
        unfold cmp3
        by_cases h1 : Sp.nval a < Sp.nval b
        · rw [if_pos (by omega), if_pos h1]
        · rw [if_neg (by omega), if_neg h1]
          by_cases h2 : Sp.nval b < Sp.nval a
          · rw [if_pos (by omega), if_pos h2]
          · rw [if_neg (by omega), if_neg h2]
      obtain ⟨hc1, hc2⟩ := hc
      have HC := Lib.hid hc1
      have HA := Lib.hid ha
      have HB := Lib.hid hb
      have HDA := Lib.hid da
      have HDB := Lib.hid db
      subst hc2
      clear ha hb da db hc1 h
      go_enter Tryz.func64, Tryz.ntmps64
      go_wp2_with (first
        | (go_at_call 39; refine (is_calls _ _).mono ?_; rintro e w1 ⟨rfl, hb1⟩; (first | rw [HA.out] | rw [HB.out]); have hb0 := Lib.hid (hb0.out.trans (hb1.mono hb0.out.size)); clear hb1)
        | (go_at_call 85; with_reducible refine (parse_num a _ HDA.out ?hl).mono ?_; (case hl => omega); rintro e w2 ⟨Ca, ka, ca, rfl, hNa, hb1⟩; have hb0 := Lib.hid (hb0.out.trans (hb1.mono hb0.out.size)); clear hb1)
        | (go_at_call 85; with_reducible refine (parse_num b _ HDB.out ?hl).mono ?_; (case hl => omega); rintro e w3 ⟨Cb, kb, cb, rfl, hNb, hb1⟩; have hb0 := Lib.hid (hb0.out.trans (hb1.mono hb0.out.size)); have hNa3 := Lib.hid (hNa.below hb1); clear hb1)
        | (go_at_call 90; with_reducible refine (cmp_num Ca Cb ka ca kb cb _ _ _ hNa3.out.nu hNb.nu ?h1 ?h2).mono ?_; (case h1 => rw [hNa3.out.len]; omega); (case h2 => rw [hNb.len]; omega); rintro e w4 ⟨rfl, hb1⟩; rw [HC.out]; have hb0 := Lib.hid (hb0.out.trans (hb1.mono hb0.out.size)); clear hb1))
      go_ret2
      exact ⟨rfl, hb0.out⟩
theorem nval_zero {s : ByteArray} (h : Sp.isNat s = true) (h0 : Sp.nval s = 0) : s = ⟨#[48]⟩ := by
  obtain ⟨hd, _, hp⟩ := isNat_digs h
  obtain ⟨⟨l⟩⟩ := s
  unfold Sp.isNat Sp.isNatL at h
  simp only [Bool.and_eq_true, Bool.or_eq_true, decide_eq_true_eq] at h
  have hc := h.2
  have h0' : Sp.nvalL l = 0 := h0
  cases l with
  | nil => exact absurd hp (by decide)
  | cons c r =>
    have hcd := hd c (by simp)
    unfold Sp.isDig at hcd
    simp only [Bool.and_eq_true, decide_eq_true_eq] at hcd
    rw [nvalL_cons] at h0'
    have h10 : 1 ≤ 10 ^ r.length := Nat.one_le_pow _ _ (by decide)
    have hc0 : (c.toNat - 48) = 0 := by
      rcases Nat.eq_zero_or_pos (c.toNat - 48) with h1 | h1
      · exact h1
      · have : 1 * 1 ≤ (c.toNat - 48) * 10 ^ r.length := Nat.mul_le_mul h1 h10
        omega
    have hc48 : c = 48 := UInt8.toNat_inj.1 (by show c.toNat = 48; omega)
    subst hc48
    have hr : r = [] := by
      rcases hc with hc | hc
      · cases r with
        | nil => rfl
        | cons x y => simp at hc
      · simp at hc
    subst hr
    rfl
set_option maxHeartbeats 1000000 in
set_option maxRecDepth 100000 in
theorem natural_Sub.calls (a b : ByteArray) (r1 : ByteArray) (r2 : Int) (w : World) (hTab : Tab w) (h : natural_Sub.f a b = some (r1, r2)) :
    Calls Tryz.prog 65 #[.string a, .string b] w fun e w' => e = .returned (.tuple #[.string r1, .int .i64 r2]) ∧ Below w.heap.size w w' := by
  unfold natural_Sub.f at h
  have h := Option.some.inj h
  obtain ⟨c1, c2, hc⟩ : ∃ c1 c2, natural_Compare.f a b = some (c1, c2) := ⟨_, _, rfl⟩
  have HC := Lib.hid (fun w => natural_Compare.calls a b c1 c2 w hc)
  unfold natural_Compare.f at hc
  have hc := Option.some.inj hc
  have HT := Lib.hid hTab
  clear hTab
  cases hn : (Sp.isNat a && Sp.isNat b)
  · rw [hn, if_neg (by decide)] at hc
    obtain ⟨rfl, rfl⟩ := Prod.mk.inj hc
    unfold Sp.natOp at h
    rw [hn, if_neg (by decide)] at h
    obtain ⟨rfl, rfl⟩ := Prod.mk.inj h
    have H := fun w hT => apply_calls 91 (fun x y => x - y) a b w hT (enters_of Tryz.func91 (by kernel_rfl) rfl) (fun ha hb => by rw [ha, hb] at hn; cases hn)
    have h2 : Sp.natOp a b (fun x y => Sp.lim (x - y)) = (Sp.e0, 1) := by unfold Sp.natOp; rw [hn]; rfl
    rw [h2] at H
    have HH := Lib.hid H
    clear H h2 hn hc h
    go_enter Tryz.func65, Tryz.ntmps65
    go_wp2_with (first
      | (go_at_call 64; refine (HC.out _).mono ?_; rintro e w1 ⟨rfl, hb1⟩)
      | (go_at_call 60; refine (HH.out _ (HT.out.below hb1)).mono ?_; rintro e w2 ⟨rfl, hb2⟩))
    go_ret2
    exact ⟨rfl, hb1.trans (hb2.mono hb1.size)⟩
  · rw [hn, if_pos rfl] at hc
    unfold Sp.natOp at h
    rw [hn, if_pos rfl] at h
    dsimp only at h
    by_cases hlt : Sp.nval a < Sp.nval b
    · rw [if_pos hlt] at hc h
      obtain ⟨rfl, rfl⟩ := Prod.mk.inj hc
      obtain ⟨rfl, rfl⟩ := Prod.mk.inj h
      clear hn hc h
      go_enter Tryz.func65, Tryz.ntmps65
      go_wp2_with (go_at_call 64; refine (HC.out _).mono ?_; rintro e w1 ⟨rfl, hb1⟩)
      go_ret2
      exact ⟨rfl, hb1⟩
    · rw [if_neg hlt] at hc h
      have hc1 : 0 ≤ c1 ∧ c2 = 0 := by
        obtain ⟨h1, h2⟩ := Prod.mk.inj hc
        refine ⟨?_, h2.symm⟩
        rw [← h1]
        split <;> omega
      obtain ⟨hc1, rfl⟩ := hc1
      have H := fun w hT => apply_calls 91 (fun x y => x - y) a b w hT (enters_of Tryz.func91 (by kernel_rfl) rfl) (fun ha hb W A n c B m d h1 h2 hn hm => subop _ _ W A n c B m d h1 h2 hn hm (nval_lt ha) (by omega))
      have h2 : Sp.natOp a b (fun x y => Sp.lim (x - y)) = (r1, r2) := by
        rw [← h]
        unfold Sp.natOp
        rw [hn, if_pos rfl]
        rw [Bool.and_eq_true] at hn
        exact lim_small (Nat.lt_of_le_of_lt (Nat.sub_le _ _) (nval_lt hn.1))
      rw [h2] at H
      have HH := Lib.hid H
      have hc2 : ¬ c1 < 0 := by omega
      clear H h2 hn hc h hlt hc1
      go_enter Tryz.func65, Tryz.ntmps65
      go_wp2_with (first
        | (go_at_call 64; refine (HC.out _).mono ?_; rintro e w1 ⟨rfl, hb1⟩)
        | (go_at_call 60; refine (HH.out _ (HT.out.below hb1)).mono ?_; rintro e w2 ⟨rfl, hb2⟩))
      go_ret2
      exact ⟨rfl, hb1.trans (hb2.mono hb1.size)⟩
set_option maxHeartbeats 1000000 in
set_option maxRecDepth 100000 in
theorem natural_Div.calls (a b : ByteArray) (r1 r2 : ByteArray) (r3 : Int) (w : World) (hTab : Tab w) (h : natural_Div.f a b = some (r1, r2, r3)) :
    Calls Tryz.prog 77 #[.string a, .string b] w fun e w' => e = .returned (.tuple #[.string r1, .string r2, .int .i64 r3]) ∧ Below w.heap.size w w' := by
  unfold natural_Div.f at h
  have h := Option.some.inj h
  have hb0 := Lib.hid (Below.refl w.heap.size w)
  have HT := Lib.hid hTab
  clear hTab
  cases ha : Sp.isNat a
  · rw [ha, Bool.false_and, if_neg (by decide)] at h
    cases h
    have HA := Lib.hid ha
    clear ha
    go_enter Tryz.func77, Tryz.ntmps77
    go_wp2_with (go_at_call 39; refine (is_calls _ _).mono ?_; rintro e w1 ⟨rfl, hb1⟩; rw [HA.out])
    go_ret3
    exact ⟨rfl, hb1⟩
  · cases hb : Sp.isNat b
    · rw [ha, hb, if_neg (by decide)] at h
      cases h
      have HA := Lib.hid ha
      have HB := Lib.hid hb
      clear ha hb
      go_enter Tryz.func77, Tryz.ntmps77
      go_wp2_with (go_at_call 39; refine (is_calls _ _).mono ?_; rintro e w1 ⟨rfl, hb1⟩; (first | rw [HA.out] | rw [HB.out]); have hb0 := Lib.hid (hb0.out.trans (hb1.mono hb0.out.size)); clear hb1)
      go_ret3
      exact ⟨rfl, hb0.out⟩
    · rw [ha, hb, Bool.true_and, if_pos rfl] at h
      by_cases hz : Sp.nval b = 0
      · rw [if_pos hz] at h
        cases h
        obtain rfl := nval_zero hb hz
        have HA := Lib.hid ha
        have HB := Lib.hid hb
        clear ha hb hz
        go_enter Tryz.func77, Tryz.ntmps77
        go_wp2_with (go_at_call 39; refine (is_calls _ _).mono ?_; rintro e w1 ⟨rfl, hb1⟩; (first | rw [HA.out] | rw [HB.out]); have hb0 := Lib.hid (hb0.out.trans (hb1.mono hb0.out.size)); clear hb1)
        go_ret3
        exact ⟨rfl, hb0.out⟩
      · rw [if_neg hz] at h
        obtain ⟨da, la, _⟩ := isNat_digs ha
        obtain ⟨db, lb, _⟩ := isNat_digs hb
        have lla := len34 (nval_lt ha)
        have llb := len34 (nval_lt hb)
        have hne2 : (b.toList == [48]) = false := by
          rw [beq_eq_false_iff_ne, Lib.toList_data]
          intro e
          apply hz
          unfold Sp.nval
          rw [e]
          rfl
        have hne3 : ¬ b.toList = [48] := by simpa using hne2
        have hq : Sp.lim (Sp.nval a / Sp.nval b) = (r1, 0) := by
          rw [lim_small (Nat.lt_of_le_of_lt (Nat.div_le_self _ _) (nval_lt ha))]
          cases h; rfl
        have hr : Sp.lim (Sp.nval a % Sp.nval b) = (r2, 0) := by
          rw [lim_small (Nat.lt_of_le_of_lt (Nat.mod_le _ _) (nval_lt ha))]
          cases h; rfl
        have hr3 : r3 = 0 := by cases h; rfl
        subst hr3
        have HQ := Lib.hid hq
        have HR := Lib.hid hr
        have HA := Lib.hid ha
        have HB := Lib.hid hb
        have HDA := Lib.hid da
        have HDB := Lib.hid db
        have HZ := Lib.hid (Nat.pos_of_ne_zero hz)
        clear ha hb da db h hq hr hz
        go_enter Tryz.func77, Tryz.ntmps77
        go_wp2_with (first
          | (go_at_call 39; refine (is_calls _ _).mono ?_; rintro e w1 ⟨rfl, hb1⟩; (first | rw [HA.out] | rw [HB.out]); have hb0 := Lib.hid (hb0.out.trans (hb1.mono hb0.out.size)); clear hb1)
          | (go_at_call 85; with_reducible refine (parse_num a _ HDA.out ?hl).mono ?_; (case hl => omega); rintro e w2 ⟨Ca, ka, ca, rfl, hNa, hb1⟩; have hb0 := Lib.hid (hb0.out.trans (hb1.mono hb0.out.size)); clear hb1)
          | (go_at_call 85; with_reducible refine (parse_num b _ HDB.out ?hl).mono ?_; (case hl => omega); rintro e w3 ⟨Cb, kb, cb, rfl, hNb, hb1⟩; have hb0 := Lib.hid (hb0.out.trans (hb1.mono hb0.out.size)); have hNa3 := Lib.hid (hNa.below hb1); clear hb1)
          | (go_at_call 87; with_reducible refine (div_num Ca Cb ka ca kb cb _ _ _ hNa3.out.nu hNb.nu HZ.out ?h1 ?h2).mono ?_; (case h1 => rw [hNa3.out.len]; omega); (case h2 => rw [hNb.len]; omega); rintro e w4 ⟨C4, k4, c4, D4, l4, d4, rfl, hQ4, hR4, hb1⟩; have hb0 := Lib.hid (hb0.out.trans (hb1.mono hb0.out.size)); have HQ4 := Lib.hid hQ4; have HR4 := Lib.hid hR4; have hk4 : k4 ≤ 100000 := (by rw [HQ4.out.len]; have := limbs_len_mono (Nat.div_le_self (Sp.nval a) (Sp.nval b)); omega); have hl4 : l4 ≤ 100000 := (by rw [HR4.out.len]; have := limbs_len_mono (Nat.mod_le (Sp.nval a) (Sp.nval b)); omega); clear hb1 hQ4 hR4)
          | (go_at_call 86; with_reducible refine (text_num C4 k4 c4 (Sp.nval a / Sp.nval b) _ (HT.out.below hb0.out) HQ4.out.nu hk4).mono ?_; rw [HQ.out]; rintro e w5 ⟨rfl, hb1⟩; have hb0 := Lib.hid (hb0.out.trans (hb1.mono hb0.out.size)); have HR5 := Lib.hid (HR4.out.nu.below hb1); clear hb1)
          | (go_at_call 86; with_reducible refine (text_num D4 l4 d4 (Sp.nval a % Sp.nval b) _ (HT.out.below hb0.out) HR5.out hl4).mono ?_; rw [HR.out]; rintro e w6 ⟨rfl, hb1⟩; have hb0 := Lib.hid (hb0.out.trans (hb1.mono hb0.out.size)); clear hb1))
        go_ret3
        exact ⟨rfl, hb0.out⟩
end Go.Proofs.YtmkanjcehhbmlaaGreatDoor.Pr
end
