/- The contracts of natural.number's operations, as numbers. -/
import Derived.Test.YtmkanjcehhbmlaaGreatDoorDBuild
import Derived.Test.YtmkanjcehhbmlaaGreatDoorDFmt
import Derived.Test.YtmkanjcehhbmlaaGreatDoorDGN2
import Derived.Test.YtmkanjcehhbmlaaGreatDoorDGW
import Derived.Test.YtmkanjcehhbmlaaGreatDoorDGW2
import Derived.Test.YtmkanjcehhbmlaaGreatDoorDNum
import Derived.Test.YtmkanjcehhbmlaaGreatDoorDNumAdd
import Derived.Test.YtmkanjcehhbmlaaGreatDoorDNumCmp
import Derived.Test.YtmkanjcehhbmlaaGreatDoorDNumMul
import Derived.Test.YtmkanjcehhbmlaaGreatDoorDNumParse
import Derived.Test.YtmkanjcehhbmlaaGreatDoorDNumText
import Derived.Test.YtmkanjcehhbmlaaGreatDoorDNumVal
import Derived.Test.YtmkanjcehhbmlaaGreatDoorDPrA4
import Derived.Test.YtmkanjcehhbmlaaGreatDoorDPrA5
import Derived.Test.YtmkanjcehhbmlaaGreatDoorDShelf
import Derived.Test.YtmkanjcehhbmlaaGreatDoorDSpec
import Derived.Test.YtmkanjcehhbmlaaGreatDoorDTab
import Derived.Test.YtmkanjcehhbmlaaGreatDoorDWLast
set_option linter.all false
section
namespace Go.Proofs.YtmkanjcehhbmlaaGreatDoor.Pr
set_option linter.unusedSimpArgs false
set_option linter.unusedVariables false
open Go.RowKit Go.Shelf Go.Proofs.YtmkanjcehhbmlaaGreatDoorW.PrintWords Go.Proofs.YtmkanjcehhbmlaaGreatDoorW.PrintLast Go.Proofs.YtmkanjcehhbmlaaGreatDoorW.PrintMore
/-- A slice of a number's limbs. -/
def NU (w : World) (A : Option Addr) (n c : Nat) (a : Nat) : Prop := n = (limbs a).length ∧ n ≤ c ∧ CU w A (limbs a)
theorem NU.below {w w' : World} {A : Option Addr} {n c a : Nat} (h : NU w A n c a) (hb : Below w.heap.size w w') : NU w' A n c a := ⟨h.1, h.2.1, cu_below h.2.2 hb⟩
/-- .. whose row lies at or beyond B0. -/
def NF (w : World) (B0 : Nat) (A : Option Addr) (n c : Nat) (a : Nat) : Prop := NU w A n c a ∧ (0 < n → ∃ b off, A = some ⟨b, off, none⟩ ∧ B0 ≤ b)
theorem NF.below {w w' : World} {B0 : Nat} {A : Option Addr} {n c a : Nat} (h : NF w B0 A n c a) (hb : Below w.heap.size w w') : NF w' B0 A n c a := ⟨h.1.below hb, h.2⟩
theorem NF.lower {w : World} {B0 B1 : Nat} {A : Option Addr} {n c a : Nat} (h : NF w B0 A n c a) (hb : B1 ≤ B0) : NF w B1 A n c a := ⟨h.1, fun h0 => let ⟨b, off, e, hB⟩ := h.2 h0; ⟨b, off, e, Nat.le_trans hb hB⟩⟩
/-- What a row of the call's own reads is in the blocks that were told. -/
theorem V_block {W : World} {e base : Nat} {ok : Nat → Prop} {b off n c : Nat} {xs : List Int} (h : (Kd.int .u64).V e W base ok (.slice (some ⟨b, off, none⟩) n c) xs) (h0 : 0 < n) : ok b := by
  by_cases hb : ok b
  · exact hb
  · exfalso
    have h2 := Kd.V_far h (p := ⟨b, off, none⟩) (fun k hk e => hb (by rw [← show k = b from e]; exact hk)) (.bool true)
    obtain ⟨r1, r2, r3⟩ := Kd.V_reads' h
    obtain ⟨q1, q2, q3⟩ := Kd.V_reads' h2
    obtain ⟨b1, o1, e1, _, hc1⟩ := cu_cells r3 (by omega)
    obtain ⟨b2, o2, e2, _, hc2⟩ := cu_cells q3 (by omega)
    cases e1
    cases e2
    have c1 := hc1 0 (by omega)
    have c2 := hc2 0 (by omega)
    rw [Nat.add_zero] at c1 c2
    rw [World.cell?_setCell_same' _ _ _ (by rw [c1]; rfl)] at c2
    cases c2
theorem nf_of_v {W : World} {e base B0 : Nat} {ok : Nat → Prop} {C : Option Addr} {n c a : Nat} (h : (Kd.int .u64).V e W base ok (.slice C n c) (limbs a)) (hok : ∀ k, ok k → B0 ≤ k) : NF W B0 C n c a := by
  obtain ⟨h1, h2, h3⟩ := Kd.V_reads' h
  refine ⟨⟨h1, h2, by rw [CU]; exact h3⟩, fun h0 => ?_⟩
  obtain ⟨b, off, rfl, _, _⟩ := cu_cells h3 (by omega)
  exact ⟨b, off, rfl, hok b (V_block h h0)⟩
theorem NF.nu {w : World} {B0 : Nat} {A : Option Addr} {n c a : Nat} (h : NF w B0 A n c a) : NU w A n c a := h.1
theorem NF.len {w : World} {B0 : Nat} {A : Option Addr} {n c a : Nat} (h : NF w B0 A n c a) : n = (limbs a).length := h.1.1
theorem NU.len {w : World} {A : Option Addr} {n c a : Nat} (h : NU w A n c a) : n = (limbs a).length := h.1
theorem mul_num (A B : Option Addr) (n c m d a b : Nat) (w : World) (ha : NU w A n c a) (hb : NU w B m d b) (hr : n ≤ 50000) (hr2 : m ≤ 50000) :
    Calls Tryz.prog 118 #[.slice A n c, .slice B m d] w fun e w' => ∃ C k d', e = .returned (.slice C k d') ∧ NF w' w.heap.size C k d' (a * b) ∧ Below w.heap.size w w' := by
  obtain ⟨rfl, h1, h2⟩ := ha
  obtain ⟨rfl, h3, h4⟩ := hb
  refine (natural_number_mul.calls _ A c (limbs a) B d (limbs b) (limbs (a * b)) w h2 h1 h4 h3 (mul_f a b _ (by omega) (by omega) (Nat.le_refl _))).mono ?_
  rintro e w' ⟨v, rfl, hv, hb⟩
  obtain ⟨C, d', rfl⟩ := Kd.V_slice hv
  exact ⟨C, _, d', rfl, nf_of_v hv (fun k hk => hk), hb⟩
theorem sub_num (A B : Option Addr) (n c m d a b : Nat) (w : World) (ha : NU w A n c a) (hb : NU w B m d b) (hab : b ≤ a) (hr : n ≤ 50000) (hr2 : m ≤ 50000) :
    Calls Tryz.prog 91 #[.slice A n c, .slice B m d] w fun e w' => ∃ C k d', e = .returned (.slice C k d') ∧ NF w' w.heap.size C k d' (a - b) ∧ Below w.heap.size w w' := by
  obtain ⟨rfl, h1, h2⟩ := ha
  obtain ⟨rfl, h3, h4⟩ := hb
  refine (natural_number_sub.calls _ A c (limbs a) B d (limbs b) (limbs (a - b)) w h2 h1 h4 h3 (sub_f a b _ hab (by omega) (Nat.le_refl _))).mono ?_
  rintro e w' ⟨v, rfl, hv, hb⟩
  obtain ⟨C, d', rfl⟩ := Kd.V_slice hv
  exact ⟨C, _, d', rfl, nf_of_v hv (fun k hk => hk), hb⟩
theorem add_num (A B : Option Addr) (n c m d a b : Nat) (w : World) (ha : NU w A n c a) (hb : NU w B m d b) (hr : n ≤ 50000) (hr2 : m ≤ 50000) :
    Calls Tryz.prog 89 #[.slice A n c, .slice B m d] w fun e w' => ∃ C k d', e = .returned (.slice C k d') ∧ NF w' w.heap.size C k d' (a + b) ∧ Below w.heap.size w w' := by
  obtain ⟨rfl, h1, h2⟩ := ha
  obtain ⟨rfl, h3, h4⟩ := hb
  refine (add_calls A B c d (limbs a) (limbs b) w h2 h4 (limbs_Limbs _) (limbs_Limbs _) (by omega) (by omega)).mono ?_
  rintro e w' ⟨v, rfl, hv, hb⟩
  rw [add_limbs] at hv
  obtain ⟨C, d', rfl⟩ := Kd.V_slice hv
  exact ⟨C, _, d', rfl, nf_of_v hv (fun k hk => hk), hb⟩
theorem cmp_num (A B : Option Addr) (n c m d a b : Nat) (w : World) (ha : NU w A n c a) (hb : NU w B m d b) (hr : n ≤ 100000) (hr2 : m ≤ 100000) :
    Calls Tryz.prog 90 #[.slice A n c, .slice B m d] w fun e w' => e = .returned (.int .i64 (cmp3 a b)) ∧ Below w.heap.size w w' := by
  obtain ⟨rfl, h1, h2⟩ := ha
  obtain ⟨rfl, h3, h4⟩ := hb
  rw [← cmp_limbs]
  exact compare_calls A B c d _ _ w h2 h4 hr hr2
theorem text_num (A : Option Addr) (n c a : Nat) (w : World) (hTab : Tab w) (ha : NU w A n c a) (hr : n ≤ 100000) :
    Calls Tryz.prog 86 #[.slice A n c] w fun e w' => e = .returned (.tuple #[.string (Sp.lim a).1, .int .i64 (Sp.lim a).2]) ∧ Below w.heap.size w w' := by
  obtain ⟨rfl, h1, h2⟩ := ha
  rw [← text_val]
  exact text_calls A c _ w hTab h2 (limbs_Limbs _) hr
theorem parse_num (s : ByteArray) (w : World) (hd : ∀ c ∈ s.data.toList, Sp.isDig c = true) (hl : s.size ≤ 100000) :
    Calls Tryz.prog 85 #[.string s] w fun e w' => ∃ C k d', e = .returned (.slice C k d') ∧ NF w' w.heap.size C k d' (Sp.nval s) ∧ Below w.heap.size w w' := by
  refine (parse_calls s w hd hl).mono ?_
  rintro e w' ⟨v, rfl, hv, hb⟩
  rw [parse_limbs _ hd] at hv
  obtain ⟨C, d', rfl⟩ := Kd.V_slice hv
  exact ⟨C, _, d', rfl, nf_of_v hv (fun k hk => hk), hb⟩
/-- A new slice of one limb. -/
theorem one_num (w : World) (x : Nat) (h0 : 0 < x) (h1 : x < 1000000000) : NU (w.alloc (.cells #[.int .u64 x] 99)) (some ⟨w.heap.size, 0, none⟩) 1 1 x := by
  have e : limbs x = [(x : Int)] := by rw [limbs_pos (by omega), show x / 1000000000 = 0 by omega, limbs_zero, show x % 1000000000 = x by omega]
  unfold NU; rw [e]
  refine ⟨rfl, Nat.le_refl _, rfl, by simp, fun _ => ⟨_, rfl, fun j p hp => ⟨[.int .u64 p], rfl, rfl, fun i u hu => ?_⟩⟩⟩
  have hj : j = 0 := by
    rcases j with _ | j
    · rfl
    · simp at hp
  subst hj
  have hi : i = 0 := by
    rcases i with _ | i
    · rfl
    · simp at hu
  subst hi
  simp at hp hu
  subst hp hu
  exact (cell_of_box _ _ _ _ (World.alloc_heap_new w _)).1
theorem mul_len {a b n : Nat} (h : (limbs a).length ≤ n) (hb : b < 1000000000) : (limbs (a * b)).length ≤ n + 1 := by
  refine limbs_len_le _ _ ?_
  have h1 := limbs_len a
  have h2 : ((1000000000 ^ (limbs a).length : Nat) : Int) = (1000000000 : Int) ^ (limbs a).length := by simp
  rw [← h2] at h1
  have h3 : 1000000000 ^ (limbs a).length ≤ 1000000000 ^ n := Nat.pow_le_pow_right (by omega) h
  rw [Nat.pow_succ]
  generalize 1000000000 ^ (limbs a).length = P at *
  generalize 1000000000 ^ n = Q at *
  have h4 : a < Q := by omega
  exact Nat.lt_of_le_of_lt (Nat.mul_le_mul_left a (Nat.le_of_lt hb)) (Nat.mul_lt_mul_of_pos_right h4 (by omega))
theorem cmp3_pos (x y : Nat) : decide (0 < cmp3 x y) = decide (y < x) := by
  rcases Nat.lt_trichotomy x y with h | h | h
  · rw [cmp3_lt (by omega), decide_eq_false (by omega), decide_eq_false (by omega)]
  · subst h; rw [cmp3_self, decide_eq_false (by omega), decide_eq_false (by omega)]
  · rw [cmp3_gt (by omega), decide_eq_true (by omega), decide_eq_true h]
theorem trim_num (A : Option Addr) (c a : Nat) (P0 : Nat → Prop) (xs : List Int) (w : World) (B0 : Nat) (hV : (Kd.int .u64).V 99 w w.heap.size P0 (.slice A xs.length c) xs) (hP : ∀ k, P0 k → B0 ≤ k) (hB : B0 ≤ w.heap.size) (hL : Limbs xs) (hv : lval xs = a) (hr : xs.length ≤ 100000) :
    Calls Tryz.prog 109 #[.slice A xs.length c] w fun e w' => ∃ C k d', e = .returned (.slice C k d') ∧ NF w' B0 C k d' a ∧ Below w.heap.size w w' := by
  refine (natural_number_trim.calls (xs.length + 1) P0 A c xs (limbs a) w hV (by rw [trim_f _ _ (by omega) (by omega), trim_of hL hv])).mono ?_
  rintro e w' ⟨v, rfl, hv, hb⟩
  obtain ⟨C, d', rfl⟩ := Kd.V_slice hv
  exact ⟨C, _, d', rfl, nf_of_v hv (fun k hk => hk.elim (hP k) (fun h => Nat.le_trans hB h)), hb⟩
theorem cu_kept {W W' : World} {A : Option Addr} {xs : List Int} {row : Option Nat} (h : CU W A xs) (hg : W.grownBy W' row) (hr : ∀ r, row = some r → ∃ o : Obj, W.heap[r]? = some o ∧ o.isCells = false) : CU W' A xs :=
  ⟨h.1, h.2.1, fun h0 => let ⟨ad, e, f⟩ := h.2.2 h0; ⟨ad, e, fun j p hp => let ⟨c, hl, hR, hc⟩ := f j p hp; ⟨c, hl, hR, fun i u hu => cell_kept (hc i u hu) hg hr⟩⟩⟩
theorem NF.kept {W W' : World} {B0 : Nat} {A : Option Addr} {n c a : Nat} {row : Option Nat} (h : NF W B0 A n c a) (hg : W.grownBy W' row) (hr : ∀ r, row = some r → ∃ o : Obj, W.heap[r]? = some o ∧ o.isCells = false) : NF W' B0 A n c a :=
  ⟨⟨h.1.1, h.1.2.1, cu_kept h.1.2.2 hg hr⟩, h.2⟩
theorem cu_of_cells {W : World} {b off : Nat} {xs : List Int} (hl : xs.length ≤ 100000) (h : ∀ j, j < xs.length → W.cell? ⟨b, off + j, none⟩ = some (.int .u64 (rd xs (j : Nat)))) : CU W (some ⟨b, off, none⟩) xs := by
  refine ⟨rfl, by omega, fun _ => ⟨_, rfl, fun j p hp => ⟨[.int .u64 p], rfl, rfl, fun i u hu => ?_⟩⟩⟩
  obtain ⟨hj, e⟩ := List.getElem?_eq_some_iff.1 hp
  have hi : i = 0 := by
    rcases i with _ | i
    · rfl
    · simp at hu
  subst hi
  have hu' : u = .int .u64 p := by simpa using hu.symm
  subst hu'
  have h2 := h j hj
  have h3 : rd xs (j : Nat) = p := by rw [rd_nat, List.getD_eq_getElem?_getD, hp]; rfl
  rw [h3] at h2
  have ej : (⟨b, off, none⟩ : Addr).add (j * (Kd.int IntKind.u64).sz + 0) = ⟨b, off + j, none⟩ := by
    have : (Kd.int IntKind.u64).sz = 1 := rfl
    rw [this]
    unfold Addr.add
    split <;> simp_all
  rw [ej]
  exact h2
/-- A store elsewhere. -/
theorem NF.setCell {W : World} {B0 : Nat} {A : Option Addr} {n c a : Nat} (h : NF W B0 A n c a) (hn : n ≤ 100000) (p : Addr) (hp : p.block < B0) (v : Value) : NF (W.setCell p v) B0 A n c a := by
  refine ⟨⟨h.1.1, h.1.2.1, ?_⟩, h.2⟩
  rcases Nat.eq_zero_or_pos n with h0 | h0
  · have h1 := h.1.1
    have h2 := h.1.2.2
    exact ⟨h2.1, h2.2.1, fun h3 => by omega⟩
  · obtain ⟨b, off, rfl, hb⟩ := h.2 h0
    have hl := h.1.1
    obtain ⟨b2, o2, e2, hlt, hc⟩ := cu_cells h.1.2.2 (by omega)
    cases e2
    refine cu_of_cells (by omega) fun j hj => ?_
    exact (World.cell?_of_block (w := W) (a := ⟨b, off + j, none⟩) (Below.heap_setCell _ _ _ _ (by show b ≠ p.block; omega))).trans (hc j hj)
end Go.Proofs.YtmkanjcehhbmlaaGreatDoor.Pr
end
