/- Numbers as texts and as rational numbers: the operations of package ratio over valid numbers are exact, or ErrLimit. Gauss over rational numbers: what the steps of the elimination keep. linear.Solve as a function over rows of numbers, and what it answers. linear.Solve's memory: the rows' header, the rows, and a copy of whole numbers. linear.Solve: bad systems and great ones. linear.Solve: the pieces of its rounds, and the walk. linear.Solve: what its inner calls answer. -/
import Derived.Laws.CopyOwn
import Derived.Deep.RegionHeld3
import Derived.Deep.DeepCutAuto
import Derived.Test.YtmkanjcehhbmlaaGreatDoorDBuild
import Derived.Test.YtmkanjcehhbmlaaGreatDoorDFmt
import Derived.Test.YtmkanjcehhbmlaaGreatDoorDGL1
import Derived.Test.YtmkanjcehhbmlaaGreatDoorDGN
import Derived.Test.YtmkanjcehhbmlaaGreatDoorDGN2
import Derived.Test.YtmkanjcehhbmlaaGreatDoorDGN3
import Derived.Test.YtmkanjcehhbmlaaGreatDoorDGRR
import Derived.Test.YtmkanjcehhbmlaaGreatDoorDGRS
import Derived.Test.YtmkanjcehhbmlaaGreatDoorDGW
import Derived.Test.YtmkanjcehhbmlaaGreatDoorDGW2
import Derived.Test.YtmkanjcehhbmlaaGreatDoorDNatApply
import Derived.Test.YtmkanjcehhbmlaaGreatDoorDNatS
import Derived.Test.YtmkanjcehhbmlaaGreatDoorDNum
import Derived.Test.YtmkanjcehhbmlaaGreatDoorDNumAdd
import Derived.Test.YtmkanjcehhbmlaaGreatDoorDNumCmp
import Derived.Test.YtmkanjcehhbmlaaGreatDoorDNumDiv
import Derived.Test.YtmkanjcehhbmlaaGreatDoorDNumIs
import Derived.Test.YtmkanjcehhbmlaaGreatDoorDNumMul
import Derived.Test.YtmkanjcehhbmlaaGreatDoorDNumOps
import Derived.Test.YtmkanjcehhbmlaaGreatDoorDNumParse
import Derived.Test.YtmkanjcehhbmlaaGreatDoorDNumText
import Derived.Test.YtmkanjcehhbmlaaGreatDoorDNumVal
import Derived.Test.YtmkanjcehhbmlaaGreatDoorDPrA1
import Derived.Test.YtmkanjcehhbmlaaGreatDoorDPrA11
import Derived.Test.YtmkanjcehhbmlaaGreatDoorDPrA4
import Derived.Test.YtmkanjcehhbmlaaGreatDoorDPrA5
import Derived.Test.YtmkanjcehhbmlaaGreatDoorDPrB1
import Derived.Test.YtmkanjcehhbmlaaGreatDoorDPrB2
import Derived.Test.YtmkanjcehhbmlaaGreatDoorDRatOps
import Derived.Test.YtmkanjcehhbmlaaGreatDoorDRatProd
import Derived.Test.YtmkanjcehhbmlaaGreatDoorDRatSum
import Derived.Test.YtmkanjcehhbmlaaGreatDoorDRatVal
import Derived.Test.YtmkanjcehhbmlaaGreatDoorDShelf
import Derived.Test.YtmkanjcehhbmlaaGreatDoorDSpec
import Derived.Test.YtmkanjcehhbmlaaGreatDoorDTab
import Derived.Test.YtmkanjcehhbmlaaGreatDoorDWLast
set_option linter.all false
set_option exponentiation.threshold 1200
section
namespace Go.Proofs.YtmkanjcehhbmlaaGreatDoor.Pr
set_option linter.unusedSimpArgs false
set_option linter.unusedVariables false
open Go.RowKit
def toQ (s : SR) : Rat := Sp.rval s.f0 s.f1 s.f2
def ofQ (q : Rat) : SR := ⟨(Sp.enc q).1, (Sp.enc q).2.1, (Sp.enc q).2.2⟩
def Bd (k : Nat) (q : Rat) : Prop := q.num.natAbs < 10 ^ k ∧ q.den < 10 ^ k
theorem toQ_parts {s : SR} (h : vldS s = true) : (toQ s).num = sg s.f0 (Sp.nval s.f1) ∧ (toQ s).den = Sp.nval s.f2 := by
  obtain ⟨h1, h2, h3, h4, h5⟩ := vld_parts h
  unfold toQ
  rw [rval_sg]
  have e : Nat.gcd (Sp.nval s.f2) (sg s.f0 (Sp.nval s.f1)).natAbs = 1 := by rw [sg_abs, Nat.gcd_comm]; exact h4
  refine ⟨?_, ?_⟩
  · rw [Rat.num_mkRat, if_neg h3, e]; simp
  · rw [Rat.den_mkRat, if_neg h3, e]; simp
theorem ofQ_toQ {s : SR} (h : vldS s = true) : ofQ (toQ s) = s := by
  obtain ⟨e1, e2⟩ := toQ_parts h
  obtain ⟨h1, h2, h3, h4, h5⟩ := vld_parts h
  unfold ofQ Sp.enc
  rw [e1, e2, sg_abs, dec_nval h1, dec_nval h2]
  obtain ⟨b, x, y⟩ := s
  simp only at *
  congr 1
  cases b
  · unfold sg; simp
  · have := h5 rfl; unfold sg; simp; omega
theorem toQ_inj {s t : SR} (hs : vldS s = true) (ht : vldS t = true) (h : toQ s = toQ t) : s = t := by rw [← ofQ_toQ hs, h, ofQ_toQ ht]
theorem vld_ofQ {q : Rat} (h : Bd 300 q) : vldS (ofQ q) = true := by
  show Sp.vld (decide (q.num < 0)) (Sp.dec q.num.natAbs) (Sp.dec q.den) = true
  unfold Sp.vld
  rw [isNat_dec h.1, isNat_dec h.2, nval_dec, nval_dec, decide_eq_true q.den_nz, decide_eq_true (show Nat.gcd q.num.natAbs q.den = 1 from q.reduced)]
  by_cases hq : q.num < 0
  · rw [decide_eq_true hq, decide_eq_false (by omega)]; rfl
  · rw [decide_eq_false hq]; rfl
theorem toQ_ofQ (q : Rat) : toQ (ofQ q) = q := by
  unfold toQ
  show Sp.rval (decide (q.num < 0)) (Sp.dec q.num.natAbs) (Sp.dec q.den) = q
  rw [rval_sg, nval_dec, nval_dec]
  have : sg (decide (q.num < 0)) q.num.natAbs = q.num := by
    unfold sg
    by_cases hq : q.num < 0
    · rw [decide_eq_true hq, if_pos rfl]; omega
    · rw [decide_eq_false hq, if_neg (by decide)]; omega
  rw [this, Rat.mkRat_self]
theorem bd_of {s : SR} (h : vldS s = true) (hl : Sp.long s.f1 s.f2 = false) : Bd 140 (toQ s) := by
  obtain ⟨e1, e2⟩ := toQ_parts h
  obtain ⟨h1, h2, h3, h4, h5⟩ := vld_parts h
  unfold Sp.long at hl
  simp only [Bool.or_eq_false_iff, decide_eq_false_iff_not] at hl
  unfold Bd
  rw [e1, e2, sg_abs]
  exact ⟨nval140 h1 (by omega), nval140 h2 (by omega)⟩
theorem isZ_iff {s : SR} (h : vldS s = true) : isZ s = true ↔ toQ s = 0 := by
  obtain ⟨e1, e2⟩ := toQ_parts h
  obtain ⟨h1, h2, h3, h4, h5⟩ := vld_parts h
  rw [← Rat.num_eq_zero, e1]
  unfold isZ
  constructor
  · intro hz
    simp only [Bool.and_eq_true, beq_iff_eq] at hz
    have := (zero48 h1).1 hz.2.1
    rw [this]; unfold sg; simp
  · intro hz
    have h0 : Sp.nval s.f1 = 0 := by rw [← sg_abs s.f0 (Sp.nval s.f1), hz]; rfl
    have hf : s.f0 = false := by
      cases hb : s.f0
      · rfl
      · exact absurd h0 (h5 hb)
    rw [h0, Nat.gcd_zero_left] at h4
    rw [hf, (zero48 h1).2 h0]
    have : s.f2.toList = [49] := by have := dec49 (Sp.nval s.f2); rw [dec_nval h2] at this; exact this.2 h4
    rw [this]; rfl
theorem bd_mk {n : Int} {d k : Nat} (hd : d ≠ 0) (h1 : n.natAbs < 10 ^ k) (h2 : d < 10 ^ k) : Bd k (mkRat n d) := by
  unfold Bd
  rw [Rat.num_mkRat, Rat.den_mkRat, if_neg hd, if_neg hd]
  exact ⟨Nat.lt_of_le_of_lt (Int.natAbs_ediv_le_natAbs _ _) h1, Nat.lt_of_le_of_lt (Nat.div_le_self _ _) h2⟩
theorem mul280 {x y : Nat} (hx : x < 10 ^ 140) (hy : y < 10 ^ 140) : x * y < 10 ^ 280 := by
  rw [show (280 : Nat) = 140 + 140 from rfl, Nat.pow_add]
  exact Nat.mul_lt_mul'' hx hy
theorem p281 : (10 : Nat) ^ 280 + 10 ^ 280 ≤ 10 ^ 300 := by
  refine Nat.le_trans (m := 10 ^ 281) ?_ (Nat.pow_le_pow_right (by omega) (by omega))
  rw [show (281 : Nat) = 280 + 1 from rfl, Nat.pow_succ]
  generalize (10 : Nat) ^ 280 = z
  omega
theorem lt300 {x : Nat} (h : x < 10 ^ 280) : x < 10 ^ 300 := Nat.lt_of_lt_of_le h (Nat.le_trans (Nat.le_add_right _ _) p281)
theorem lt300' {x y z : Nat} (hx : x < 10 ^ 280) (hy : y < 10 ^ 280) (h : z ≤ x + y) : z < 10 ^ 300 := by
  refine Nat.lt_of_lt_of_le ?_ p281
  generalize (10 : Nat) ^ 280 = z at *
  omega
theorem bd_mul (a b : Rat) (ha : Bd 140 a) (hb : Bd 140 b) : Bd 300 (a * b) := by
  rw [Rat.mul_def']
  exact bd_mk (Nat.mul_ne_zero a.den_nz b.den_nz) (by rw [Int.natAbs_mul]; exact lt300 (mul280 ha.1 hb.1)) (lt300 (mul280 ha.2 hb.2))
theorem bd_add (a b : Rat) (ha : Bd 140 a) (hb : Bd 140 b) : Bd 300 (a + b) := by
  rw [Rat.add_def']
  refine bd_mk (Nat.mul_ne_zero a.den_nz b.den_nz) (lt300' (mul280 ha.1 hb.2) (mul280 hb.1 ha.2) ?_) (lt300 (mul280 ha.2 hb.2))
  refine Nat.le_trans (Int.natAbs_add_le _ _) ?_
  rw [Int.natAbs_mul, Int.natAbs_mul]; simp
theorem bd_sub (a b : Rat) (ha : Bd 140 a) (hb : Bd 140 b) : Bd 300 (a - b) := by
  rw [Rat.sub_eq_add_neg]
  exact bd_add a (-b) ha ⟨by rw [Rat.neg_num, Int.natAbs_neg]; exact hb.1, by rw [Rat.neg_den]; exact hb.2⟩
theorem bd_inv (b : Rat) (hb : Bd 140 b) (h0 : b ≠ 0) : Bd 140 b⁻¹ := by
  have hn : b.num ≠ 0 := fun h => h0 (Rat.num_eq_zero.1 h)
  unfold Bd
  rw [Rat.num_inv, Rat.den_inv, if_neg hn, Int.natAbs_mul]
  have : b.num.sign.natAbs = 1 := Int.natAbs_sign_of_ne_zero hn
  rw [this, Nat.one_mul]
  exact ⟨hb.2, hb.1⟩
theorem bd_div (a b : Rat) (ha : Bd 140 a) (hb : Bd 140 b) (h0 : b ≠ 0) : Bd 300 (a / b) := by
  rw [Rat.div_def]
  exact bd_mul _ _ ha (bd_inv b hb h0)
theorem op_ok (z : Bool) (f : Rat → Rat → Rat) (x y : SR) (hx : vldS x = true) (hy : vldS y = true) (hz : z = true → toQ y ≠ 0) (hf : Bd 140 (toQ x) → Bd 140 (toQ y) → Bd 300 (f (toQ x) (toQ y))) :
    (ansS (Sp.ratOp z f x.f0 x.f1 x.f2 y.f0 y.f1 y.f2) = (ofQ (f (toQ x) (toQ y)), 0) ∧ Bd 300 (f (toQ x) (toQ y))) ∨ (ansS (Sp.ratOp z f x.f0 x.f1 x.f2 y.f0 y.f1 y.f2)).2 = 2 := by
  have ex : Sp.vld x.f0 x.f1 x.f2 = true := hx
  have ey : Sp.vld y.f0 y.f1 y.f2 = true := hy
  have hzz : ¬ ((z && decide (Sp.nval y.f1 = 0)) = true) := by
    rw [Bool.and_eq_true, decide_eq_true_eq]
    rintro ⟨h1, h2⟩
    apply hz h1
    rw [← Rat.num_eq_zero, (toQ_parts hy).1, h2]
    unfold sg; simp
  unfold Sp.ratOp
  rw [ex, ey, if_neg (by decide), if_neg hzz]
  by_cases hl : (Sp.long x.f1 x.f2 || Sp.long y.f1 y.f2) = true
  · right; rw [if_pos hl]; rfl
  · left
    rw [if_neg hl]
    rw [Bool.not_eq_true, Bool.or_eq_false_iff] at hl
    exact ⟨rfl, hf (bd_of hx hl.1) (bd_of hy hl.2)⟩
/-- Two ways: the exact number, or ErrLimit. -/
def Ok (r : SR × Int) (q : Rat) : Prop := (r.2 = 0 ∧ vldS r.1 = true ∧ toQ r.1 = q) ∨ r.2 = 2
theorem ok_of {r : SR × Int} {q : Rat} (h : (r = (ofQ q, 0) ∧ Bd 300 q) ∨ r.2 = 2) : Ok r q := by
  rcases h with ⟨h1, h2⟩ | h
  · rw [h1]; exact .inl ⟨rfl, vld_ofQ h2, toQ_ofQ q⟩
  · exact .inr h
theorem div_ok {x y : SR} (hx : vldS x = true) (hy : vldS y = true) (hz : toQ y ≠ 0) : Ok (divS x y) (toQ x / toQ y) := ok_of (op_ok true (· / ·) x y hx hy (fun _ => hz) (fun a b => bd_div _ _ a b hz))
theorem mul_ok {x y : SR} (hx : vldS x = true) (hy : vldS y = true) : Ok (mulS x y) (toQ x * toQ y) := ok_of (op_ok false (· * ·) x y hx hy (fun h => by cases h) (bd_mul _ _))
theorem sub_ok {x y : SR} (hx : vldS x = true) (hy : vldS y = true) : Ok (subS x y) (toQ x - toQ y) := ok_of (op_ok false (· - ·) x y hx hy (fun h => by cases h) (bd_sub _ _))
def addS (x p : SR) : SR × Int := ansS (Sp.ratOp false (· + ·) x.f0 x.f1 x.f2 p.f0 p.f1 p.f2)
theorem add_ok {x y : SR} (hx : vldS x = true) (hy : vldS y = true) : Ok (addS x y) (toQ x + toQ y) := ok_of (op_ok false (· + ·) x y hx hy (fun h => by cases h) (bd_add _ _))
end Go.Proofs.YtmkanjcehhbmlaaGreatDoor.Pr
end

section
namespace Go.Proofs.YtmkanjcehhbmlaaGreatDoor.Pr.Ga
def sumN : Nat → (Nat → Rat) → Rat
  | 0, _ => 0
  | n + 1, f => sumN n f + f n
theorem sumN_congr {f g : Nat → Rat} : ∀ {n : Nat}, (∀ i, i < n → f i = g i) → sumN n f = sumN n g
  | 0, _ => rfl
  | n + 1, h => by rw [sumN, sumN, sumN_congr (n := n) (fun i hi => h i (by omega)), h n (by omega)]
theorem sumN_zero {f : Nat → Rat} : ∀ {n : Nat}, (∀ i, i < n → f i = 0) → sumN n f = 0
  | 0, _ => rfl
  | n + 1, h => by rw [sumN, sumN_zero (n := n) (fun i hi => h i (by omega)), h n (by omega), Rat.add_zero]
theorem sumN_add (f g : Nat → Rat) : ∀ n, sumN n (fun i => f i + g i) = sumN n f + sumN n g
  | 0 => (Rat.add_zero 0).symm
  | n + 1 => by rw [sumN, sumN, sumN, sumN_add f g n]; grind
theorem sumN_mul (c : Rat) (f : Nat → Rat) : ∀ n, sumN n (fun i => c * f i) = c * sumN n f
  | 0 => by simp [sumN]
  | n + 1 => by rw [sumN, sumN, sumN_mul c f n]; grind
theorem sumN_single {f : Nat → Rat} {j : Nat} : ∀ {n : Nat}, j < n → (∀ i, i < n → i ≠ j → f i = 0) → sumN n f = f j
  | 0, h, _ => by omega
  | n + 1, h, hz => by
    rw [sumN]
    by_cases e : j = n
    · subst e; rw [sumN_zero (fun i hi => hz i (by omega) (by omega)), Rat.zero_add]
    · rw [sumN_single (j := j) (n := n) (by omega) (fun i hi hne => hz i (by omega) hne), hz n (by omega) (by omega), Rat.add_zero]
def dot (n : Nat) (r y : Nat → Rat) : Rat := sumN n fun j => r j * y j
def Sol (n : Nat) (M : Nat → Nat → Rat) (c y : Nat → Rat) : Prop := ∀ i, i < n → dot n (M i) y = c i
theorem dot_congr {n : Nat} {r s y : Nat → Rat} (h : ∀ j, j < n → r j = s j) : dot n r y = dot n s y := sumN_congr fun j hj => by rw [h j hj]
theorem dot_congr_y {n : Nat} {r y z : Nat → Rat} (h : ∀ j, j < n → y j = z j) : dot n r y = dot n r z := sumN_congr fun j hj => by rw [h j hj]
theorem dot_add (n : Nat) (r s y : Nat → Rat) : dot n (fun j => r j + s j) y = dot n r y + dot n s y := by
  unfold dot
  rw [← sumN_add]
  exact sumN_congr fun j _ => by grind
theorem dot_mul (n : Nat) (c : Rat) (r y : Nat → Rat) : dot n (fun j => c * r j) y = c * dot n r y := by
  unfold dot
  rw [← sumN_mul]
  exact sumN_congr fun j _ => by grind
theorem Sol.congr {n : Nat} {M M' : Nat → Nat → Rat} {c c' y : Nat → Rat} (hM : ∀ i j, i < n → j < n → M i j = M' i j) (hc : ∀ i, i < n → c i = c' i) : Sol n M c y ↔ Sol n M' c' y := by
  constructor
  · intro h i hi; rw [← hc i hi, ← h i hi]; exact (dot_congr fun j hj => hM i j hi hj).symm
  · intro h i hi; rw [hc i hi, ← h i hi]; exact dot_congr fun j hj => hM i j hi hj
/-- Two systems that have the same solutions, for their own right sides (column n) and, one to one, for all others. -/
structure RE (n : Nat) (A M : Nat → Nat → Rat) : Prop where
  fw : ∀ c, ∃ c', ∀ y, Sol n A c y ↔ Sol n M c' y
  bw : ∀ c', ∃ c, ∀ y, Sol n A c y ↔ Sol n M c' y
  own : ∀ y, Sol n A (fun i => A i n) y ↔ Sol n M (fun i => M i n) y
theorem RE.refl (n : Nat) (A : Nat → Nat → Rat) : RE n A A := ⟨fun c => ⟨c, fun _ => Iff.rfl⟩, fun c => ⟨c, fun _ => Iff.rfl⟩, fun _ => Iff.rfl⟩
theorem RE.trans {n : Nat} {A B C : Nat → Nat → Rat} (h : RE n A B) (k : RE n B C) : RE n A C :=
  ⟨fun c => by obtain ⟨c1, h1⟩ := h.fw c; obtain ⟨c2, h2⟩ := k.fw c1; exact ⟨c2, fun y => (h1 y).trans (h2 y)⟩,
   fun c => by obtain ⟨c1, h1⟩ := k.bw c; obtain ⟨c2, h2⟩ := h.bw c1; exact ⟨c2, fun y => (h2 y).trans (h1 y)⟩,
   fun y => (h.own y).trans (k.own y)⟩
theorem RE.congr {n : Nat} {A M : Nat → Nat → Rat} (h : ∀ i j, i < n → j ≤ n → A i j = M i j) : RE n A M :=
  ⟨fun c => ⟨c, fun _ => Sol.congr (fun i j hi hj => h i j hi (by omega)) fun _ _ => rfl⟩, fun c => ⟨c, fun _ => Sol.congr (fun i j hi hj => h i j hi (by omega)) fun _ _ => rfl⟩,
   fun _ => Sol.congr (fun i j hi hj => h i j hi (by omega)) fun i hi => h i n hi (Nat.le_refl _)⟩
/-- Two rows change places. -/
def sw (k l i : Nat) : Nat := if i = k then l else if i = l then k else i
theorem sw_lt {k l i n : Nat} (hk : k < n) (hl : l < n) (hi : i < n) : sw k l i < n := by unfold sw; (repeat' split) <;> omega
theorem sw_sw (k l i : Nat) : sw k l (sw k l i) = i := by unfold sw; repeat' split <;> try omega
theorem re_swap {n k l : Nat} (hk : k < n) (hl : l < n) (A : Nat → Nat → Rat) : RE n A (fun i => A (sw k l i)) := by
  have key : ∀ c y, Sol n A c y ↔ Sol n (fun i => A (sw k l i)) (fun i => c (sw k l i)) y := fun c y =>
    ⟨fun h i hi => h _ (sw_lt hk hl hi), fun h i hi => by have := h _ (sw_lt hk hl hi); simp only [sw_sw] at this; exact this⟩
  refine ⟨fun c => ⟨_, key c⟩, fun c => ⟨fun i => c (sw k l i), fun y => ?_⟩, fun y => key _ y⟩
  have := key (fun i => c (sw k l i)) y
  simp only [sw_sw] at this
  exact this
/-- Row k is multiplied by a number other than 0. -/
theorem re_scale {n k : Nat} (A : Nat → Nat → Rat) {p : Rat} (hp : p ≠ 0) : RE n A (fun i j => if i = k then p * A i j else A i j) := by
  have key : ∀ c y, Sol n A c y ↔ Sol n (fun i j => if i = k then p * A i j else A i j) (fun i => if i = k then p * c i else c i) y := fun c y => by
    constructor
    · intro h i hi
      by_cases e : i = k
      · simp only [if_pos e]; rw [dot_mul, h i hi]
      · simp only [if_neg e]; exact h i hi
    · intro h i hi
      have := h i hi
      by_cases e : i = k
      · simp only [if_pos e] at this; rw [dot_mul] at this; grind
      · simp only [if_neg e] at this; exact this
  refine ⟨fun c => ⟨_, key c⟩, fun c => ⟨fun i => if i = k then p⁻¹ * c i else c i, fun y => ?_⟩, fun y => key _ y⟩
  rw [key]
  refine Sol.congr (fun _ _ _ _ => rfl) fun i _ => ?_
  by_cases e : i = k
  · simp only [if_pos e]; have := Rat.mul_inv_cancel p hp; grind
  · simp only [if_neg e]
/-- Multiples of row k are taken from the other rows. -/
theorem re_elim {n k : Nat} (hk : k < n) (A : Nat → Nat → Rat) (f : Nat → Rat) : RE n A (fun i j => if i = k then A i j else A i j - f i * A k j) := by
  have hd : ∀ i (y : Nat → Rat), dot n (fun j => A i j - f i * A k j) y = dot n (A i) y - f i * dot n (A k) y := fun i y => by
    have := dot_add n (A i) (fun j => (- f i) * A k j) y
    rw [dot_mul] at this
    rw [show (fun j => A i j - f i * A k j) = (fun j => A i j + (- f i) * A k j) from funext fun j => by grind, this]
    grind
  have key : ∀ c y, Sol n A c y ↔ Sol n (fun i j => if i = k then A i j else A i j - f i * A k j) (fun i => if i = k then c i else c i - f i * c k) y := fun c y => by
    constructor
    · intro h i hi
      by_cases e : i = k
      · simp only [if_pos e]; exact h i hi
      · simp only [if_neg e]; rw [hd, h i hi, h k hk]
    · intro h i hi
      have hk' := h k hk
      simp only [if_true] at hk'
      have := h i hi
      by_cases e : i = k
      · simp only [if_pos e] at this; exact this
      · simp only [if_neg e] at this; rw [hd] at this; rw [hk'] at this; grind
  refine ⟨fun c => ⟨_, key c⟩, fun c => ⟨fun i => if i = k then c i else c i + f i * c k, fun y => ?_⟩, fun y => key _ y⟩
  rw [key]
  refine Sol.congr (fun _ _ _ _ => rfl) fun i _ => ?_
  by_cases e : i = k
  · simp only [if_pos e]
  · simp only [if_neg e, if_true]; grind
/-- The first k columns are reduced. -/
def Red (n k : Nat) (M : Nat → Nat → Rat) : Prop := ∀ i j, i < n → j < k → M i j = if i = j then 1 else 0
/-- One step: row l comes to place k, is divided by its number at k, and is taken from the others; only the columns from k on change. -/
def Step (n k l : Nat) (M M' : Nat → Nat → Rat) : Prop :=
  ∀ i j, i < n → j ≤ n → M' i j = if j < k then M (sw k l i) j else if i = k then M l j / M l k else M (sw k l i) j - M (sw k l i) k * (M l j / M l k)
theorem step_ok {n k l : Nat} {M M' : Nat → Nat → Rat} (hR : Red n k M) (hkl : k ≤ l) (hl : l < n) (hp : M l k ≠ 0) (hS : Step n k l M M') : Red n (k + 1) M' ∧ RE n M M' := by
  have hk : k < n := by omega
  have hpi := Rat.mul_inv_cancel _ hp
  refine ⟨fun i j hi hj => ?_, ?_⟩
  · rw [hS i j hi (by omega)]
    by_cases hjk : j < k
    · rw [if_pos hjk, hR _ _ (sw_lt hk hl hi) hjk]
      have : sw k l i = j ↔ i = j := by unfold sw; (repeat' split) <;> omega
      simp only [this]
    · rw [if_neg hjk]
      obtain rfl : j = k := by omega
      have : M l j / M l j = 1 := by rw [Rat.div_def]; exact hpi
      rw [this]
      by_cases e : i = j
      · rw [if_pos e, if_pos e]
      · rw [if_neg e, if_neg e]; grind
  · refine (re_swap hk hl M).trans ((re_scale (k := k) (p := (M l k)⁻¹) _ (by intro h; rw [h] at hpi; simp at hpi)).trans ((re_elim hk _ (fun i => M (sw k l i) k)).trans (RE.congr fun i j hi hj => ?_)))
    have hsk : sw k l k = l := by unfold sw; rw [if_pos rfl]
    rw [hS i j hi hj]
    simp only [if_true, hsk]
    by_cases hjk : j < k
    · have hl0 : M l j = 0 := by rw [hR _ _ hl hjk, if_neg (by omega)]
      rw [if_pos hjk]
      by_cases e : i = k
      · subst e; simp only [if_true, hsk]; rw [hl0]; grind
      · simp only [if_neg e]; rw [hl0]; grind
    · rw [if_neg hjk]
      by_cases e : i = k
      · subst e; simp only [if_true, hsk]; rw [Rat.div_def]; grind
      · simp only [if_neg e]; rw [Rat.div_def]; grind
theorem dot_unit {n i : Nat} (hi : i < n) {r : Nat → Rat} (y : Nat → Rat) (h : ∀ j, j < n → r j = if i = j then 1 else 0) : dot n r y = y i := by
  unfold dot
  rw [sumN_single hi (fun j hj hne => by rw [h j hj, if_neg (by omega), Rat.zero_mul]), h i hi, if_pos rfl, Rat.one_mul]
/-- Each right side has exactly one solution. -/
def Reg (n : Nat) (A : Nat → Nat → Rat) : Prop := ∀ c, ∃ y, Sol n A c y ∧ ∀ z, Sol n A c z → ∀ j, j < n → z j = y j
/-- 0 has a solution other than 0. -/
def Sing (n : Nat) (A : Nat → Nat → Rat) : Prop := ∃ y, Sol n A (fun _ => 0) y ∧ ∃ j, j < n ∧ y j ≠ 0
theorem reg_not_sing {n : Nat} {A : Nat → Nat → Rat} (h : Reg n A) (k : Sing n A) : False := by
  obtain ⟨y, hy, j, hj, hne⟩ := k
  obtain ⟨z, _, hz⟩ := h (fun _ => 0)
  have h0 : Sol n A (fun _ => 0) (fun _ => 0) := fun i _ => sumN_zero fun j _ => Rat.mul_zero _
  exact hne ((hz y hy j hj).trans (hz _ h0 j hj).symm)
theorem reg_of_red {n : Nat} {A M : Nat → Nat → Rat} (hE : RE n A M) (hR : Red n n M) : Reg n A ∧ Sol n A (fun i => A i n) (fun i => M i n) := by
  have hs : ∀ c y, Sol n M c y ↔ ∀ i, i < n → y i = c i := fun c y => by
    constructor
    · intro h i hi; rw [← h i hi, dot_unit hi y (fun j hj => hR i j hi hj)]
    · intro h i hi; rw [dot_unit hi y (fun j hj => hR i j hi hj), h i hi]
  refine ⟨fun c => ?_, (hE.own _).2 ((hs _ _).2 fun _ _ => rfl)⟩
  obtain ⟨c', h⟩ := hE.fw c
  exact ⟨c', (h _).2 ((hs _ _).2 fun _ _ => rfl), fun z hz => (hs _ _).1 ((h z).1 hz)⟩
theorem sing_of_stuck {n k : Nat} {A M : Nat → Nat → Rat} (hE : RE n A M) (hk : k < n) (hR : Red n k M) (hz : ∀ i, k ≤ i → i < n → M i k = 0) : Sing n A := by
  obtain ⟨c, hc⟩ := hE.bw (fun _ => 0)
  have h0 : ∀ B : Nat → Nat → Rat, Sol n B (fun _ => 0) (fun _ => 0) := fun B i _ => sumN_zero fun j _ => Rat.mul_zero _
  have hc0 : ∀ i, i < n → c i = 0 := fun i hi => by rw [← (hc _).2 (h0 M) i hi]; exact h0 A i hi
  have hy : Sol n M (fun _ => 0) (fun j => if j < k then - M j k else if j = k then 1 else 0) := by
    intro i hi
    by_cases hik : i < k
    · have e : dot n (M i) (fun j => if j < k then - M j k else if j = k then 1 else 0) = dot n (fun j => if i = j then 1 else 0) (fun j => - M i k) + dot n (fun j => if k = j then 1 else 0) (fun j => M i k) := by
        unfold dot
        rw [← sumN_add]
        refine sumN_congr fun j hj => ?_
        dsimp only
        by_cases h1 : j < k
        · rw [if_pos h1, hR i j hi h1, if_neg (show ¬ k = j by omega)]
          by_cases h2 : i = j
          · subst h2; simp only [if_true]; grind
          · simp only [if_neg h2]; grind
        · rw [if_neg h1, if_neg (show ¬ i = j by omega)]
          by_cases h2 : j = k
          · subst h2; simp only [if_true]; grind
          · rw [if_neg h2, if_neg (fun h => h2 h.symm)]; grind
      rw [e, dot_unit hi _ (fun _ _ => rfl), dot_unit hk _ (fun _ _ => rfl)]
      exact Rat.neg_add_cancel _
    · refine sumN_zero fun j hj => ?_
      dsimp only
      by_cases h1 : j < k
      · rw [if_pos h1, hR i j hi h1, if_neg (by omega), Rat.zero_mul]
      · by_cases h2 : j = k
        · subst h2; rw [hz i (by omega) hi, Rat.zero_mul]
        · rw [if_neg h1, if_neg h2, Rat.mul_zero]
  refine ⟨_, (Sol.congr (fun _ _ _ _ => rfl) (fun i hi => hc0 i hi)).1 ((hc _).2 hy), k, hk, ?_⟩
  rw [if_neg (by omega), if_pos rfl]
  decide
end Go.Proofs.YtmkanjcehhbmlaaGreatDoor.Pr.Ga
end

section
namespace Go.Proofs.YtmkanjcehhbmlaaGreatDoor.Pr
set_option linter.unusedSimpArgs false
set_option linter.unusedVariables false
open Go.RowKit Ga
/-- Row k is put. -/
def upd (M : Nat → List SR) (k : Nat) (r : List SR) : Nat → List SR := fun i => if i = k then r else M i
/-- Where the first row from k on lies whose number at k is not 0 (-1: none). -/
def pivI (n k : Nat) (M : Nat → List SR) : Int := findI (fun j => !isZ (rdS (M (k + j)) k)) (List.range' 0 (n - k)) 0
def elimI (pv : List SR) (n k : Nat) : Nat → Nat → (Nat → List SR) → (Nat → List SR) × Int
  | 0, _, M => (M, 0)
  | d + 1, i, M =>
    if i = k ∨ isZ (rdS (M i) k) = true then elimI pv n k d (i + 1) M
    else if (chg (elimS (rdS (M i) k) pv k) k (n + 1 - k) 0 (M i)).2 = 0 then elimI pv n k d (i + 1) (upd M i (chg (elimS (rdS (M i) k) pv k) k (n + 1 - k) 0 (M i)).1)
    else (M, (chg (elimS (rdS (M i) k) pv k) k (n + 1 - k) 0 (M i)).2)
/-- The pivot row, divided. -/
def divR (n k l : Nat) (M : Nat → List SR) : List SR × Int := chg (fun _ x => divS x (rdS (M l) k)) k (n + 1 - k) 0 (M l)
def solI (n : Nat) : Nat → Nat → (Nat → List SR) → (Nat → List SR) × Int
  | 0, _, M => (M, 0)
  | d + 1, k, M =>
    if pivI n k M < 0 then (M, 12)
    else if (divR n k (k + (pivI n k M).toNat) M).2 = 0 then
      if (elimI (divR n k (k + (pivI n k M).toNat) M).1 n k n 0 (upd (fun i => M (sw k (k + (pivI n k M).toNat) i)) k (divR n k (k + (pivI n k M).toNat) M).1)).2 = 0 then
        solI n d (k + 1) (elimI (divR n k (k + (pivI n k M).toNat) M).1 n k n 0 (upd (fun i => M (sw k (k + (pivI n k M).toNat) i)) k (divR n k (k + (pivI n k M).toNat) M).1)).1
      else (M, (elimI (divR n k (k + (pivI n k M).toNat) M).1 n k n 0 (upd (fun i => M (sw k (k + (pivI n k M).toNat) i)) k (divR n k (k + (pivI n k M).toNat) M).1)).2)
    else (M, (divR n k (k + (pivI n k M).toNat) M).2)
/-- The system's rows. -/
def sysM (l0 : List (List SR)) (l1 : List SR) : Nat → List SR := fun i => l0.getD i [] ++ [rdS l1 i]
def goodA (l0 : List (List SR)) (l1 : List SR) : Bool := decide (l0.length = l1.length) && (l1.all vldS && l0.all fun r => decide (r.length = l1.length) && r.all vldS)
def linF (l0 : List (List SR)) (l1 : List SR) : List SR × Int :=
  if goodA l0 l1 = false then ([], 1) else if 8 < l1.length then ([], 2)
  else if (solI l1.length l1.length 0 (sysM l0 l1)).2 = 0 then ((List.range l1.length).map fun i => rdS ((solI l1.length l1.length 0 (sysM l0 l1)).1 i) l1.length, 0)
  else ([], (solI l1.length l1.length 0 (sysM l0 l1)).2)
/-- The numbers of rows. -/
def qM (M : Nat → List SR) : Nat → Nat → Rat := fun i j => toQ (rdS (M i) j)
/-- All rows have n + 1 valid numbers. -/
def Vm (n : Nat) (M : Nat → List SR) : Prop := ∀ i, i < n → (M i).length = n + 1 ∧ ∀ j, j ≤ n → vldS (rdS (M i) j) = true
theorem rdS_set (ys : List SR) (i j : Nat) (x : SR) (h : i < ys.length) : rdS (ys.set i x) j = if j = i then x else rdS ys j := by
  unfold rdS
  rw [List.getD_eq_getElem?_getD, List.getD_eq_getElem?_getD, List.getElem?_set]
  by_cases e : i = j
  · subst e; rw [if_pos rfl, if_pos rfl, if_pos h]; rfl
  · rw [if_neg e, if_neg (fun h => e h.symm)]
theorem chg_len (fn : Nat → SR → SR × Int) (s : Nat) : ∀ d i ys, (chg fn s d i ys).1.length = ys.length
  | 0, _, _ => rfl
  | d + 1, i, ys => by
    rw [chg]; split
    · rw [chg_len, List.length_set]
    · rfl
/-- chg with operations that are exact or ErrLimit. -/
theorem chg_ok (fn : Nat → SR → SR × Int) (g : Nat → Rat → Rat) (s : Nat) : ∀ d i ys, s + i + d ≤ ys.length → (∀ j, i ≤ j → j < i + d → vldS (rdS ys (s + j)) = true) → (∀ j x, i ≤ j → j < i + d → vldS x = true → Ok (fn j x) (g j (toQ x))) →
    ((chg fn s d i ys).2 = 2) ∨ ((chg fn s d i ys).2 = 0 ∧ ∀ j, (s + i ≤ j ∧ j < s + i + d → vldS (rdS (chg fn s d i ys).1 j) = true ∧ toQ (rdS (chg fn s d i ys).1 j) = g (j - s) (toQ (rdS ys j))) ∧ (¬ (s + i ≤ j ∧ j < s + i + d) → rdS (chg fn s d i ys).1 j = rdS ys j))
  | 0, i, ys, _, _, _ => .inr ⟨rfl, fun j => ⟨fun h => absurd h (by omega), fun _ => rfl⟩⟩
  | d + 1, i, ys, hl, hv, hf => by
    rw [chg]
    rcases hf i (rdS ys (s + i)) (Nat.le_refl _) (by omega) (hv i (Nat.le_refl _) (by omega)) with ⟨h0, h1, h2⟩ | h
    · rw [if_pos h0]
      have hset := fun j => rdS_set ys (s + i) j (fn i (rdS ys (s + i))).1 (by omega)
      rcases chg_ok fn g s d (i + 1) (ys.set (s + i) (fn i (rdS ys (s + i))).1) (by rw [List.length_set]; omega) (fun j h3 h4 => by rw [hset, if_neg (by omega)]; exact hv j (by omega) (by omega)) (fun j x h3 h4 => hf j x (by omega) (by omega)) with h | ⟨h3, h4⟩
      · exact .inl h
      · refine .inr ⟨h3, fun j => ⟨fun hj => ?_, fun hj => ?_⟩⟩
        · by_cases e : j = s + i
          · subst e
            rw [(h4 (s + i)).2 (by omega), hset, if_pos rfl]
            exact ⟨h1, by rw [h2, show s + i - s = i by omega]⟩
          · have := (h4 j).1 (by omega)
            rw [hset, if_neg e] at this
            exact this
        · rw [(h4 j).2 (by omega), hset, if_neg (by omega)]
    · rw [if_neg (by rw [h]; decide)]
      exact .inl h
theorem elimS_ok (f : SR) (pv : List SR) (s j : Nat) (x : SR) (hf : vldS f = true) (hp : vldS (rdS pv (s + j)) = true) (hx : vldS x = true) : Ok (elimS f pv s j x) (toQ x - toQ f * toQ (rdS pv (s + j))) := by
  unfold elimS
  rcases mul_ok hf hp with ⟨h0, h1, h2⟩ | h
  · rw [if_pos h0, ← h2]; exact sub_ok hx h1
  · rw [if_neg (by rw [h]; decide)]; exact .inr h
theorem findI_spec (p : Nat → Bool) : ∀ (m a : Nat), (findI p (List.range' a m) a < 0 → ∀ j, a ≤ j → j < a + m → p j = false) ∧ (¬ findI p (List.range' a m) a < 0 → a ≤ (findI p (List.range' a m) a).toNat ∧ (findI p (List.range' a m) a).toNat < a + m ∧ p (findI p (List.range' a m) a).toNat = true)
  | 0, a => ⟨fun _ j h1 h2 => by omega, fun h => absurd (by rw [List.range'_zero, findI]; decide) h⟩
  | m + 1, a => by
    rw [List.range'_succ, findI]
    cases hp : p a
    · rw [if_neg (by decide)]
      have ih := findI_spec p m (a + 1)
      rw [show (a : Int) + 1 = ((a + 1 : Nat) : Int) by omega]
      refine ⟨fun h j h1 h2 => ?_, fun h => ?_⟩
      · by_cases e : j = a
        · subst e; exact hp
        · exact ih.1 h j (by omega) (by omega)
      · obtain ⟨h1, h2, h3⟩ := ih.2 h
        exact ⟨by omega, by omega, h3⟩
    · rw [if_pos rfl]
      exact ⟨fun h => by omega, fun _ => ⟨by omega, by omega, by rw [Int.toNat_natCast]; exact hp⟩⟩
/-- The elimination, row for row. -/
theorem elimI_ok (pv : List SR) (n k : Nat) (hk : k ≤ n) (hpv : ∀ j, k ≤ j → j ≤ n → vldS (rdS pv j) = true) : ∀ d i M, i + d = n → Vm n M →
    (elimI pv n k d i M).2 = 2 ∨ ((elimI pv n k d i M).2 = 0 ∧ Vm n (elimI pv n k d i M).1 ∧ ∀ a j, a < n → j ≤ n →
      qM (elimI pv n k d i M).1 a j = if i ≤ a ∧ a ≠ k ∧ k ≤ j then qM M a j - qM M a k * toQ (rdS pv j) else qM M a j)
  | 0, i, M, h, hV => .inr ⟨rfl, hV, fun a j ha hj => by rw [if_neg (by omega)]; rfl⟩
  | d + 1, i, M, h, hV => by
    rw [elimI]
    have hin : i < n := by omega
    have hVi := hV i hin
    by_cases hc : i = k ∨ isZ (rdS (M i) k) = true
    · rw [if_pos hc]
      rcases elimI_ok pv n k hk hpv d (i + 1) M (by omega) hV with h1 | ⟨h1, h2, h3⟩
      · exact .inl h1
      · refine .inr ⟨h1, h2, fun a j ha hj => ?_⟩
        rw [h3 a j ha hj]
        by_cases e : a = i
        · subst e
          rw [if_neg (by omega)]
          rcases hc with hc | hc
          · rw [if_neg (by omega)]
          · have hz : qM M a k = 0 := (isZ_iff (hVi.2 k hk)).1 hc
            split
            · rw [hz]; grind
            · rfl
        · have : (i + 1 ≤ a ∧ a ≠ k ∧ k ≤ j) ↔ (i ≤ a ∧ a ≠ k ∧ k ≤ j) := by omega
          simp only [this]
    · rw [if_neg hc]
      have hok := chg_ok (elimS (rdS (M i) k) pv k) (fun j x => x - toQ (rdS (M i) k) * toQ (rdS pv (k + j))) k (n + 1 - k) 0 (M i) (by rw [hVi.1]; omega) (fun j _ h2 => hVi.2 _ (by omega)) (fun j x _ h2 hx => elimS_ok _ pv k j x (hVi.2 k hk) (hpv _ (by omega) (by omega)) hx)
      rcases hok with h0 | ⟨h0, h1⟩
      · rw [if_neg (by rw [h0]; decide)]; exact .inl h0
      · rw [if_pos h0]
        obtain ⟨r, hr⟩ : ∃ r, (chg (elimS (rdS (M i) k) pv k) k (n + 1 - k) 0 (M i)).1 = r := ⟨_, rfl⟩
        have hrl : r.length = n + 1 := by rw [← hr, chg_len, hVi.1]
        rw [hr] at h1 ⊢
        have hV2 : Vm n (upd M i r) := fun a ha => by
          unfold upd
          by_cases e : a = i
          · rw [if_pos e]
            refine ⟨hrl, fun j hj => ?_⟩
            by_cases hkj : k ≤ j
            · exact ((h1 j).1 (by omega)).1
            · rw [(h1 j).2 (by omega)]; exact hVi.2 j hj
          · rw [if_neg e]; exact hV a ha
        rcases elimI_ok pv n k hk hpv d (i + 1) (upd M i r) (by omega) hV2 with h2 | ⟨h2, h3, h4⟩
        · exact .inl h2
        · refine .inr ⟨h2, h3, fun a j ha hj => ?_⟩
          rw [h4 a j ha hj]
          by_cases e : a = i
          · subst e
            rw [if_neg (by omega)]
            have : upd M a r a = r := by unfold upd; rw [if_pos rfl]
            unfold qM
            rw [this]
            by_cases hkj : k ≤ j
            · rw [((h1 j).1 (by omega)).2, if_pos ⟨Nat.le_refl _, fun h => hc (.inl h), hkj⟩, show k + (j - k) = j by omega]
            · rw [(h1 j).2 (by omega), if_neg (by omega)]
          · have e1 : upd M i r a = M a := by unfold upd; rw [if_neg e]
            have : (i + 1 ≤ a ∧ a ≠ k ∧ k ≤ j) ↔ (i ≤ a ∧ a ≠ k ∧ k ≤ j) := by omega
            unfold qM
            simp only [this, e1]
/-- The steps from k on: a solution, a column without a pivot, or ErrLimit. -/
theorem solI_ok (n : Nat) (A : Nat → Nat → Rat) : ∀ d k M, k + d = n → Vm n M → RE n A (qM M) → Red n k (qM M) →
    (solI n d k M).2 = 2 ∨ ((solI n d k M).2 = 12 ∧ Sing n A) ∨ ((solI n d k M).2 = 0 ∧ Vm n (solI n d k M).1 ∧ RE n A (qM (solI n d k M).1) ∧ Red n n (qM (solI n d k M).1))
  | 0, k, M, h, hV, hE, hR => by obtain rfl : k = n := by omega
                                 exact .inr (.inr ⟨rfl, hV, hE, hR⟩)
  | d + 1, k, M, h, hV, hE, hR => by
    have hk : k < n := by omega
    rw [solI]
    have hsp := findI_spec (fun j => !isZ (rdS (M (k + j)) k)) (n - k) 0
    by_cases hp : pivI n k M < 0
    · rw [if_pos hp]
      refine .inr (.inl ⟨rfl, sing_of_stuck hE hk hR fun i h1 h2 => ?_⟩)
      have := hsp.1 hp (i - k) (by omega) (by omega)
      rw [show k + (i - k) = i by omega, Bool.not_eq_false'] at this
      exact (isZ_iff ((hV i h2).2 k (by omega))).1 this
    · rw [if_neg hp]
      obtain ⟨h1, h2, h3⟩ := hsp.2 hp
      have e : pivI n k M = findI (fun j => !isZ (rdS (M (k + j)) k)) (List.range' 0 (n - k)) 0 := rfl
      change _ < _ at h2
      rw [show ((0 : Nat) : Int) = 0 from rfl, ← e] at h2 h3
      obtain ⟨l, hl⟩ : ∃ l, k + (pivI n k M).toNat = l := ⟨_, rfl⟩
      rw [hl] at h3 ⊢
      have hln : l < n := by omega
      have hVl := hV l hln
      have hne : toQ (rdS (M l) k) ≠ 0 := fun h0 => by
        rw [(isZ_iff (hVl.2 k (by omega))).2 h0] at h3; cases h3
      have hok := chg_ok (fun _ x => divS x (rdS (M l) k)) (fun _ q => q / toQ (rdS (M l) k)) k (n + 1 - k) 0 (M l) (by rw [hVl.1]; omega) (fun j _ h2 => hVl.2 _ (by omega)) (fun j x _ _ hx => div_ok hx (hVl.2 k (by omega)) hne)
      change (divR n k l M).2 = 2 ∨ ((divR n k l M).2 = 0 ∧ ∀ j, (_ → vldS (rdS (divR n k l M).1 j) = true ∧ toQ (rdS (divR n k l M).1 j) = _) ∧ (_ → rdS (divR n k l M).1 j = _)) at hok
      have hrl : (divR n k l M).1.length = n + 1 := by unfold divR; rw [chg_len, hVl.1]
      generalize divR n k l M = r at *
      rcases hok with h0 | ⟨h0, h4⟩
      · rw [if_neg (by rw [h0]; decide)]; exact .inl h0
      · rw [if_pos h0]
        obtain ⟨M1, hM1⟩ : ∃ M1, upd (fun i => M (sw k l i)) k r.1 = M1 := ⟨_, rfl⟩
        have hM1k : M1 k = r.1 := by rw [← hM1]; unfold upd; rw [if_pos rfl]
        have hM1o : ∀ i, i ≠ k → M1 i = M (sw k l i) := fun i hi => by rw [← hM1]; unfold upd; rw [if_neg hi]
        have hV1 : Vm n M1 := fun i hi => by
          by_cases e : i = k
          · subst e
            rw [hM1k]
            refine ⟨hrl, fun j hj => ?_⟩
            by_cases hkj : i ≤ j
            · exact ((h4 j).1 (by omega)).1
            · rw [(h4 j).2 (by omega)]; exact hVl.2 j hj
          · rw [hM1o i e]; exact hV _ (sw_lt hk hln hi)
        rw [hM1]
        rcases elimI_ok r.1 n k (by omega) (fun j h5 h6 => by have := (hV1 k hk).2 j h6; rwa [hM1k] at this) n 0 M1 (by omega) hV1 with h5 | ⟨h5, h6, h7⟩
        · rw [if_neg (by rw [h5]; decide)]; exact .inl h5
        · rw [if_pos h5]
          have hSt : Step n k l (qM M) (qM (elimI r.1 n k n 0 M1).1) := fun i j hi hj => by
            rw [h7 i j hi hj]
            have hpv : k ≤ j → toQ (rdS r.1 j) = qM M l j / qM M l k := fun hkj => by
              have := ((h4 j).1 (by omega)).2
              exact this
            by_cases hjk : j < k
            · rw [if_neg (by omega), if_pos hjk]
              unfold qM
              by_cases e : i = k
              · subst e
                rw [hM1k, (h4 j).2 (by omega), show sw i l i = l by unfold sw; rw [if_pos rfl]]
              · rw [hM1o i e]
            · rw [if_neg hjk]
              by_cases e : i = k
              · subst e
                rw [if_neg (by omega), if_pos rfl]
                unfold qM
                rw [hM1k]
                exact hpv (by omega)
              · rw [if_pos ⟨Nat.zero_le _, e, by omega⟩, if_neg e, hpv (by omega)]
                unfold qM
                rw [hM1o i e]
          obtain ⟨hR', hE'⟩ := step_ok hR (by omega) hln hne hSt
          exact solI_ok n A d (k + 1) _ (by omega) h6 (hE.trans hE') hR'
/-- The system's numbers, the right sides being column n. -/
def sysQ (l0 : List (List SR)) (l1 : List SR) : Nat → Nat → Rat := qM (sysM l0 l1)
theorem goodA_parts {l0 : List (List SR)} {l1 : List SR} (h : goodA l0 l1 = true) : l0.length = l1.length ∧ (∀ i, i < l1.length → vldS (rdS l1 i) = true) ∧ ∀ i, i < l1.length → (l0.getD i []).length = l1.length ∧ ∀ j, j < l1.length → vldS (rdS (l0.getD i []) j) = true := by
  unfold goodA at h
  simp only [Bool.and_eq_true, decide_eq_true_eq, List.all_eq_true] at h
  obtain ⟨h1, h2, h3⟩ := h
  have hrd : ∀ (l : List SR) i, i < l.length → rdS l i ∈ l := fun l i hi => by
    unfold rdS; rw [List.getD_eq_getElem?_getD, List.getElem?_eq_getElem hi]; exact List.getElem_mem hi
  refine ⟨h1, fun i hi => h2 _ (hrd _ i hi), fun i hi => ?_⟩
  have hm : l0.getD i [] ∈ l0 := by rw [List.getD_eq_getElem?_getD, List.getElem?_eq_getElem (by omega)]; exact List.getElem_mem (by omega)
  obtain ⟨h4, h5⟩ := h3 _ hm
  exact ⟨h4, fun j hj => h5 _ (hrd _ j (by omega))⟩
theorem sysM_rd {l0 : List (List SR)} {l1 : List SR} {i j : Nat} (hl : (l0.getD i []).length = l1.length) (hj : j ≤ l1.length) : rdS (sysM l0 l1 i) j = if j = l1.length then rdS l1 i else rdS (l0.getD i []) j := by
  unfold sysM rdS
  by_cases e : j = l1.length
  · rw [if_pos e, List.getD_eq_getElem?_getD, List.getElem?_append_right (by omega), hl, e, Nat.sub_self]; rfl
  · rw [if_neg e, List.getD_eq_getElem?_getD, List.getElem?_append_left (by omega), List.getD_eq_getElem?_getD (l := l0.getD i [])]
theorem sys_Vm {l0 : List (List SR)} {l1 : List SR} (h : goodA l0 l1 = true) : Vm l1.length (sysM l0 l1) := by
  obtain ⟨h1, h2, h3⟩ := goodA_parts h
  intro i hi
  refine ⟨by unfold sysM; rw [List.length_append, (h3 i hi).1]; rfl, fun j hj => ?_⟩
  rw [sysM_rd (h3 i hi).1 hj]
  split
  · exact h2 i hi
  · exact (h3 i hi).2 j (by omega)
/-- For a good system: ErrLimit, or ErrState and no solution alone, or the one solution. -/
theorem linF_ok {l0 : List (List SR)} {l1 : List SR} (h : goodA l0 l1 = true) :
    linF l0 l1 = ([], 2) ∨ (linF l0 l1 = ([], 12) ∧ Sing l1.length (sysQ l0 l1)) ∨
    ((linF l0 l1).2 = 0 ∧ (linF l0 l1).1.length = l1.length ∧ (∀ i, i < l1.length → vldS (rdS (linF l0 l1).1 i) = true) ∧ Reg l1.length (sysQ l0 l1) ∧ Sol l1.length (sysQ l0 l1) (fun i => toQ (rdS l1 i)) (fun i => toQ (rdS (linF l0 l1).1 i))) := by
  obtain ⟨h1, h2, h3⟩ := goodA_parts h
  unfold linF
  rw [if_neg (by rw [h]; decide)]
  by_cases h8 : 8 < l1.length
  · rw [if_pos h8]; exact .inl rfl
  rw [if_neg h8]
  rcases solI_ok l1.length (sysQ l0 l1) l1.length 0 (sysM l0 l1) (by omega) (sys_Vm h) (RE.refl _ _) (fun i j _ hj => absurd hj (by omega)) with h4 | ⟨h4, h5⟩ | ⟨h4, h5, h6, h7⟩
  · rw [if_neg (by rw [h4]; decide), h4]; exact .inl rfl
  · rw [if_neg (by rw [h4]; decide), h4]; exact .inr (.inl ⟨rfl, h5⟩)
  · rw [if_pos h4]
    refine .inr (.inr ⟨rfl, by simp, ?_, ?_⟩)
    all_goals
      have hx : ∀ i, i < l1.length → rdS ((List.range l1.length).map fun i => rdS ((solI l1.length l1.length 0 (sysM l0 l1)).1 i) l1.length) i = rdS ((solI l1.length l1.length 0 (sysM l0 l1)).1 i) l1.length := fun i hi => by
        rw [rdS, List.getD_eq_getElem?_getD]; simp [hi]
    · intro i hi
      dsimp only
      rw [hx i hi]
      exact (h5 i hi).2 _ (Nat.le_refl _)
    · obtain ⟨hr, hs⟩ := reg_of_red h6 h7
      refine ⟨hr, fun i hi => ?_⟩
      have e1 : sysQ l0 l1 i l1.length = toQ (rdS l1 i) := by unfold sysQ qM; rw [sysM_rd (h3 i hi).1 (Nat.le_refl _), if_pos rfl]
      have := hs i hi
      dsimp only at this ⊢
      rw [← e1, ← this]
      exact dot_congr_y fun j hj => by rw [hx j hj]; rfl
theorem linF_bad {l0 : List (List SR)} {l1 : List SR} (h : goodA l0 l1 = false) : linF l0 l1 = ([], 1) := by unfold linF; rw [if_pos h]
end Go.Proofs.YtmkanjcehhbmlaaGreatDoor.Pr
end

section
namespace Go.Proofs.YtmkanjcehhbmlaaGreatDoor.Pr
set_option linter.unusedSimpArgs false
set_option linter.unusedVariables false
open Go.RowKit Go.Shelf Go.Proofs.YtmkanjcehhbmlaaGreatDoorW.PrintWords Go.Proofs.YtmkanjcehhbmlaaGreatDoorW.PrintLast Go.Proofs.YtmkanjcehhbmlaaGreatDoorW.PrintMore
theorem run_copy_wide {P : Program} (w : World) (dT sT ty elem : TypeId) (g o dLen dCap : Nat) (a : Addr) (sLen sCap z : Nat) (cur : Array Value) (t : TypeId) (cs : List Value)
    (hu : P.underlying dT = some (.slice elem)) (hs : (P.info? elem).map (·.size) = some z)
    (hg : w.heap[g]? = some (.cells cur t (0, 0))) (hn : cs.length = Nat.min sLen dLen * z)
    (hsrc : ∀ j v, cs[j]? = some v → w.cell? (a.add j) = some v) (hfit : o + cs.length ≤ cur.size) (h1 : ∀ v ∈ cs, v.oneCell' = true) :
    (Builtin.copy_ #[dT, sT] ty #[.slice (some ⟨g, o, none⟩) dLen dCap, .slice (some a) sLen sCap]).run P w =
      .ok (goInt (Nat.min sLen dLen)) (w.setRow g (cur.toList.take o ++ cs ++ cur.toList.drop (o + cs.length)).toArray) := by
  have hl := run_loadCells_list (P := P) w a cs hsrc
  have hst := run_storeCells_at P g o t cs 0 cur w hg (by simpa using hfit) h1
  cases hq : P.info? elem with
  | none => simp [hq] at hs
  | some i =>
    have hi : i.size = z := by simpa [hq] using hs
    rw [hn] at hl
    simp [Builtin.copy_, run_underlying hu, Builtin.lenOf, Builtin.firstCells, sizeOf, typeInfo, hq, hi, hl, hst]
def zS : SR := ⟨false, ⟨#[]⟩, ⟨#[]⟩⟩
theorem madeRow (n : Nat) : madeCells (Value.agg #[.bool false, .string ⟨#[]⟩, .string ⟨#[]⟩]).cells (n * 3) = rowC (List.replicate n zS) := by
  apply Array.ext
  · rw [rowC_size]; unfold madeCells; simp
  · intro i h1 h2
    have hi : i < n * 3 := by rw [rowC_size, List.length_replicate] at h2; exact h2
    obtain ⟨g0, g1, g2⟩ := rowC_get (List.replicate n zS) (i / 3) (by rw [List.length_replicate]; omega)
    have hz : rdS (List.replicate n zS) (i / 3) = zS := by
      unfold rdS; rw [List.getD_eq_getElem?_getD, List.getElem?_replicate, if_pos (by omega)]; rfl
    rw [hz] at g0 g1 g2
    have e : (madeCells (Value.agg #[.bool false, .string ⟨#[]⟩, .string ⟨#[]⟩]).cells (n * 3))[i]? = (rowC (List.replicate n zS))[i]? := by
      unfold madeCells
      have h3 : i % 3 = 0 ∨ i % 3 = 1 ∨ i % 3 = 2 := by omega
      rcases h3 with h | h | h
      · rw [show i / 3 * 3 = i by omega] at g0
        rw [g0]; simp [hi, h, Value.cells]; rfl
      · rw [show i / 3 * 3 + 1 = i by omega] at g1
        rw [g1]; simp [hi, h, Value.cells]; rfl
      · rw [show i / 3 * 3 + 2 = i by omega] at g2
        rw [g2]; simp [hi, h, Value.cells]; rfl
    rw [Array.getElem?_eq_getElem h1, Array.getElem?_eq_getElem h2] at e
    exact Option.some.inj e
theorem madeHdr (n : Nat) : madeCells (Value.slice none 0 0).cells (n * 1) = ((List.range n).map fun _ => Value.slice none 0 0).toArray := by
  unfold madeCells
  rw [Nat.mul_one]
  apply Array.ext
  · simp
  · intro i h1 h2
    simp [Value.cells]
    have : i % 1 = 0 := Nat.mod_one i
    rw [this]
    rfl
theorem infoRow : (Tryz.prog.info? 23).map (fun i => (i.zero, i.size, i.bytes)) = some (some (.slice none 0 0), 1, 24) := by kernel_rfl
theorem make_row (n : Nat) (hn : n ≤ 1000) (W : World) : (Instr.makeSlice 23 (.int .i64 (n : Int)) (.int .i64 (n : Int))).run Tryz.prog W = .ok (.slice (some ⟨W.heap.size, 0, none⟩) n n) (W.alloc (.cells (rowC (List.replicate n zS)) 31)) := by
  obtain ⟨i0, hi, hz0, hz1, hz2⟩ := info_parts info31
  have := run_make (P := Tryz.prog) W 23 31 i0 (.agg #[.bool false, .string ⟨#[]⟩, .string ⟨#[]⟩]) Tryz.underlying23 hi hz0 .i64 .i64 (n : Int) (n : Int) (by omega) (Int.le_refl _) (by rw [hz2]; omega) (by omega)
  rw [this, hz1, Int.toNat_natCast, madeRow]
theorem make_hdr (n : Nat) (hn : n ≤ 1000) (W : World) : (Instr.makeSlice 22 (.int .i64 (n : Int)) (.int .i64 (n : Int))).run Tryz.prog W = .ok (.slice (some ⟨W.heap.size, 0, none⟩) n n) (W.alloc (.cells ((List.range n).map fun _ => Value.slice none 0 0).toArray 23)) := by
  obtain ⟨i0, hi, hz0, hz1, hz2⟩ := info_parts infoRow
  have := run_make (P := Tryz.prog) W 22 23 i0 (.slice none 0 0) Tryz.underlying22 hi hz0 .i64 .i64 (n : Int) (n : Int) (by omega) (Int.le_refl _) (by rw [hz2]; omega) (by omega)
  rw [this, hz1, Int.toNat_natCast, madeHdr]
def HdrB (W : World) (HB n : Nat) (hv : Nat → Value) : Prop := W.heap[HB]? = some (.cells ((List.range n).map hv).toArray 23 (0, 0))
theorem HdrB.get {W : World} {HB n j : Nat} {hv : Nat → Value} (h : HdrB W HB n hv) (hj : j < n) : W.cell? ⟨HB, j, none⟩ = some (hv j) ∧ W.frozen? ⟨HB, j, none⟩ = false := by
  unfold HdrB at h
  refine ⟨?_, ?_⟩ <;> simp [World.cell?, World.frozen?, h, hj]
theorem HdrB.set {W : World} {HB n j : Nat} {hv : Nat → Value} (h : HdrB W HB n hv) (hj : j < n) (v : Value) : HdrB (W.setCell ⟨HB, j, none⟩ v) HB n (fun i => if i = j then v else hv i) := by
  unfold HdrB at h ⊢
  have e : (((List.range n).map hv).toArray.setIfInBounds j v) = ((List.range n).map (fun i => if i = j then v else hv i)).toArray := by
    apply Array.ext
    · simp
    · intro i h1 h2
      simp at h1 h2
      simp [List.getElem_set]
      by_cases e : j = i
      · subst e; simp
      · rw [if_neg e, if_neg (fun h => e h.symm)]
  rw [← e]
  simp [World.setCell, Array.getElem?_modify, h]
theorem HdrB.congr {W : World} {HB n : Nat} {hv hv' : Nat → Value} (h : HdrB W HB n hv) (he : ∀ i, i < n → hv i = hv' i) : HdrB W HB n hv' := by
  unfold HdrB at h ⊢
  have : (List.range n).map hv = (List.range n).map hv' := List.map_congr_left fun i hi => he i (List.mem_range.1 hi)
  rw [← this]; exact h
def slv (n p : Nat) : Value := .slice (some ⟨p, 0, none⟩) (n + 1) (n + 1)
/-- The memory of Solve: the box of n, the header, the rows. -/
structure Mat (w0 W : World) (NB HB n : Nat) (ps : Nat → Nat) (M : Nat → List SR) : Prop where
  bel : Below w0.heap.size w0 W
  nb : W.heap[NB]? = some (.cells #[.int .i64 n] 3 (0, 0))
  hb : HdrB W HB n (fun i => slv n (ps i))
  row : ∀ i, i < n → W.heap[ps i]? = some (.cells (rowC (M i)) 31 (0, 0))
  len : ∀ i, i < n → (M i).length = n + 1
  inj : ∀ i j, i < n → j < n → ps i = ps j → i = j
  neh : ∀ i, i < n → ps i ≠ HB
  nen : ∀ i, i < n → ps i ≠ NB
  hn : HB ≠ NB
  loh : w0.heap.size ≤ HB
  lor : ∀ i, i < n → w0.heap.size ≤ ps i
theorem heap_lt {W : World} {k : Nat} {o : Obj} (h : W.heap[k]? = some o) : k < W.heap.size := (Array.getElem?_eq_some_iff.1 h).1
theorem Mat.below {w0 W W' : World} {NB HB n : Nat} {ps : Nat → Nat} {M : Nat → List SR} (h : Mat w0 W NB HB n ps M) (hb : Below W.heap.size W W') : Mat w0 W' NB HB n ps M :=
  ⟨h.bel.trans (hb.mono h.bel.size), (hb.block _ (heap_lt h.nb)).trans h.nb, (hb.block _ (heap_lt h.hb)).trans h.hb, fun i hi => (hb.block _ (heap_lt (h.row i hi))).trans (h.row i hi), h.len, h.inj, h.neh, h.nen, h.hn, h.loh, h.lor⟩
theorem Mat.rowEx {w0 W W' : World} {NB HB n k : Nat} {ps : Nat → Nat} {M : Nat → List SR} {r : List SR} (h : Mat w0 W NB HB n ps M) (hk : k < n) (he : Ex (ps k) W W') (hr : W'.heap[ps k]? = some (.cells (rowC r) 31 (0, 0))) (hl : r.length = n + 1) : Mat w0 W' NB HB n ps (upd M k r) := by
  refine ⟨h.bel.trans (he.toBelow (h.lor k hk) h.bel.size), (he.block _ (heap_lt h.nb) (fun e => h.nen k hk e.symm)).trans h.nb, (he.block _ (heap_lt h.hb) (fun e => h.neh k hk e.symm)).trans h.hb, fun i hi => ?_, fun i hi => ?_, h.inj, h.neh, h.nen, h.hn, h.loh, h.lor⟩
  · unfold upd
    by_cases e : i = k
    · subst e; rw [if_pos rfl]; exact hr
    · rw [if_neg e]; exact (he.block _ (heap_lt (h.row i hi)) (fun e2 => e (h.inj i k hi hk e2))).trans (h.row i hi)
  · unfold upd
    by_cases e : i = k
    · rw [if_pos e]; exact hl
    · rw [if_neg e]; exact h.len i hi
theorem Mat.swap {w0 W : World} {NB HB n k l : Nat} {ps : Nat → Nat} {M : Nat → List SR} (h : Mat w0 W NB HB n ps M) (hk : k < n) (hl : l < n) :
    Mat w0 ((W.setCell ⟨HB, k, none⟩ (slv n (ps l))).setCell ⟨HB, l, none⟩ (slv n (ps k))) NB HB n (fun i => ps (Ga.sw k l i)) (fun i => M (Ga.sw k l i)) := by
  have hs : ∀ i, i < n → Ga.sw k l i < n := fun i hi => Ga.sw_lt hk hl hi
  have hk' : ∀ p, p ≠ HB → ((W.setCell ⟨HB, k, none⟩ (slv n (ps l))).setCell ⟨HB, l, none⟩ (slv n (ps k))).heap[p]? = W.heap[p]? := fun p hp => (Below.heap_setCell _ _ _ _ hp).trans (Below.heap_setCell _ _ _ _ hp)
  refine ⟨(h.bel.setCell (p := ⟨HB, k, none⟩) h.loh _).setCell (p := ⟨HB, l, none⟩) h.loh _, (hk' _ (fun e => h.hn e.symm)).trans h.nb, ?_, fun i hi => (hk' _ (h.neh _ (hs i hi))).trans (h.row _ (hs i hi)), fun i hi => h.len _ (hs i hi), fun i j hi hj e => ?_, fun i hi => h.neh _ (hs i hi), fun i hi => h.nen _ (hs i hi), h.hn, h.loh, fun i hi => h.lor _ (hs i hi)⟩
  · refine ((h.hb.set hk _).set hl _).congr fun i hi => ?_
    by_cases e1 : i = l
    · subst e1
      rw [if_pos rfl]
      unfold Ga.sw
      by_cases e2 : i = k
      · rw [if_pos e2, e2]
      · rw [if_neg e2, if_pos rfl]
    · rw [if_neg e1]
      unfold Ga.sw
      by_cases e2 : i = k
      · rw [if_pos e2, if_pos e2]
      · rw [if_neg e2, if_neg e2, if_neg e1]
  · have := h.inj _ _ (hs i hi) (hs j hj) e
    have e2 := congrArg (Ga.sw k l) this
    rwa [Ga.sw_sw, Ga.sw_sw] at e2
/-- The first i rows are made. -/
structure MatI (w0 W : World) (NB HB n i : Nat) (ps : Nat → Nat) (M : Nat → List SR) : Prop where
  bel : Below w0.heap.size w0 W
  nb : W.heap[NB]? = some (.cells #[.int .i64 n] 3 (0, 0))
  hb : HdrB W HB n (fun j => if j < i then slv n (ps j) else .slice none 0 0)
  row : ∀ j, j < i → W.heap[ps j]? = some (.cells (rowC (M j)) 31 (0, 0))
  len : ∀ j, j < i → (M j).length = n + 1
  inj : ∀ j l, j < i → l < i → ps j = ps l → j = l
  neh : ∀ j, j < i → ps j ≠ HB
  nen : ∀ j, j < i → ps j ≠ NB
  hn : HB ≠ NB
  loh : w0.heap.size ≤ HB
  lor : ∀ j, j < i → w0.heap.size ≤ ps j
theorem MatI.full {w0 W : World} {NB HB n : Nat} {ps : Nat → Nat} {M : Nat → List SR} (h : MatI w0 W NB HB n n ps M) : Mat w0 W NB HB n ps M :=
  ⟨h.bel, h.nb, h.hb.congr fun i hi => by rw [if_pos hi], h.row, h.len, h.inj, h.neh, h.nen, h.hn, h.loh, h.lor⟩
theorem MatI.next {w0 W W' : World} {NB HB n i P : Nat} {ps : Nat → Nat} {M : Nat → List SR} (h : MatI w0 W NB HB n i ps M) (hi : i < n) (he : Ex HB W W') (hh : HdrB W' HB n (fun j => if j = i then slv n P else if j < i then slv n (ps j) else .slice none 0 0)) (hP : W.heap.size ≤ P) (hr : W'.heap[P]? = some (.cells (rowC (M i)) 31 (0, 0))) (hl : (M i).length = n + 1) :
    MatI w0 W' NB HB n (i + 1) (fun j => if j = i then P else ps j) M := by
  have hlt : ∀ j, j < i → ps j < W.heap.size := fun j hj => heap_lt (h.row j hj)
  have hb0 := heap_lt h.hb
  have hn0 := heap_lt h.nb
  refine ⟨h.bel.trans (he.toBelow h.loh h.bel.size), (he.block _ hn0 (fun e => h.hn e.symm)).trans h.nb, hh.congr fun j hj => ?_, fun j hj => ?_, fun j hj => ?_, fun j l hj hl2 e => ?_, fun j hj => ?_, fun j hj => ?_, h.hn, h.loh, fun j hj => ?_⟩
  · by_cases e : j = i
    · rw [if_pos e, if_pos (by omega), if_pos e]
    · rw [if_neg e, if_neg e]
      by_cases e2 : j < i
      · rw [if_pos e2, if_pos (by omega)]
      · rw [if_neg e2, if_neg (by omega)]
  · by_cases e : j = i
    · subst e; rw [if_pos rfl]; exact hr
    · rw [if_neg e]; exact (he.block _ (hlt j (by omega)) (h.neh j (by omega))).trans (h.row j (by omega))
  · by_cases e : j = i
    · subst e; exact hl
    · exact h.len j (by omega)
  · by_cases e1 : j = i
    · by_cases e2 : l = i
      · rw [e1, e2]
      · rw [if_pos e1, if_neg e2] at e
        have := hlt l (by omega); omega
    · by_cases e2 : l = i
      · rw [if_neg e1, if_pos e2] at e
        have := hlt j (by omega); omega
      · rw [if_neg e1, if_neg e2] at e
        exact h.inj j l (by omega) (by omega) e
  · by_cases e : j = i
    · rw [if_pos e]; omega
    · rw [if_neg e]; exact h.neh j (by omega)
  · by_cases e : j = i
    · rw [if_pos e]; omega
    · rw [if_neg e]; exact h.nen j (by omega)
  · by_cases e : j = i
    · rw [if_pos e]; have := h.bel.size; omega
    · rw [if_neg e]; exact h.lor j (by omega)
end Go.Proofs.YtmkanjcehhbmlaaGreatDoor.Pr
end

section
namespace Go.Proofs.YtmkanjcehhbmlaaGreatDoor.Pr
set_option linter.unusedSimpArgs false
set_option linter.unusedVariables false
open Go.RowKit Go.Shelf Go.Proofs.YtmkanjcehhbmlaaGreatDoorW.PrintWords Go.Proofs.YtmkanjcehhbmlaaGreatDoorW.PrintLast Go.Proofs.YtmkanjcehhbmlaaGreatDoorW.PrintMore
/-- The rows that came in. -/
theorem rows_cells {w : World} {A : Option Addr} {l : List (List SR)} (h : Kd.C (Kd.slice 31 kR) w A l.length l) :
    ∃ As cs, Hdr w A l.length As (fun j => (l.getD j []).length) cs ∧ ∀ j, j < l.length → Kd.C kR w (As j) (l.getD j []).length (l.getD j []) := by
  have key : ∀ j, ∃ p : Option Addr × Nat, j < l.length → (∃ b off, A = some ⟨b, off, none⟩ ∧ b < w.heap.size ∧ w.cell? ⟨b, off + j, none⟩ = some (.slice p.1 (l.getD j []).length p.2)) ∧ Kd.C kR w p.1 (l.getD j []).length (l.getD j []) := fun j => by
    by_cases hj : j < l.length
    · obtain ⟨ad, e, hc⟩ := h.2.2 (by omega)
      have hx : l[j]? = some (l.getD j []) := by rw [List.getD_eq_getElem?_getD, List.getElem?_eq_getElem hj]; rfl
      obtain ⟨c, hl, ⟨A', c', rfl, hlc, hC⟩, hcc⟩ := hc j _ hx
      have hcell := hcc 0 _ rfl
      have h00 : ∃ v, w.cell? (ad.add 0) = some v := by
        obtain ⟨c0, hl0, ⟨A0, c0', rfl, _, _⟩, hcc0⟩ := hc 0 (l.getD 0 []) (by rw [List.getD_eq_getElem?_getD, List.getElem?_eq_getElem (by omega)]; rfl)
        exact ⟨_, hcc0 0 _ rfl⟩
      have hsp : ad.spot = none := by
        obtain ⟨v, h00⟩ := h00
        cases hs : ad.spot with
        | none => rfl
        | some x =>
          exfalso
          have e0 : ad.add 0 = ad := by simp [Addr.add]
          rw [e0] at h00
          unfold World.cell? at h00
          split at h00
          · rw [hs] at h00; simp at h00
          · simp at h00
      obtain ⟨b, off, sp⟩ := ad
      simp only at hsp
      subst hsp
      have ea : ∀ j, (⟨b, off, none⟩ : Addr).add j = ⟨b, off + j, none⟩ := fun j => by unfold Addr.add; split <;> simp_all
      rw [ea] at hcell
      have e1 : off + (j * (Kd.slice 31 kR).sz + 0) = off + j := by show off + (j * 1 + 0) = _; omega
      rw [e1] at hcell
      exact ⟨(A', c'), fun _ => ⟨⟨b, off, e, World.block_lt_of_cell? w _ hcell, hcell⟩, hC⟩⟩
    · exact ⟨(none, 0), fun hh => absurd hh hj⟩
  obtain ⟨f, hf⟩ := Classical.axiomOfChoice key
  refine ⟨fun j => (f j).1, fun j => (f j).2, fun h0 => ?_, fun j hj => (hf j hj).2⟩
  obtain ⟨⟨b, off, e, hb, _⟩, _⟩ := hf 0 h0
  refine ⟨b, off, e, hb, fun j hj => ?_⟩
  obtain ⟨⟨b', off', e', _, hc⟩, _⟩ := hf j hj
  rw [e] at e'
  injection e' with e'
  injection e' with h1 h2
  subst h1; subst h2
  exact hc
theorem Hdr.below {w W : World} {A : Option Addr} {n : Nat} {As : Nat → Option Addr} {ns cs : Nat → Nat} (h : Hdr w A n As ns cs) (hb : Below w.heap.size w W) : Hdr W A n As ns cs := fun h0 => by
  obtain ⟨b, off, e, hlt, hc⟩ := h h0
  exact ⟨b, off, e, Nat.lt_of_lt_of_le hlt hb.size, fun j hj => (hb.cell (p := ⟨b, off + j, none⟩) hlt).trans (hc j hj)⟩
/-- The rows are good, asked in Go's way. -/
def badR (l0 : List (List SR)) (n j : Nat) : Bool := !decide ((l0.getD j []).length = n) || !(l0.getD j []).all vldS
theorem any_bad (l0 : List (List SR)) (n : Nat) : (List.range' 0 l0.length).any (badR l0 n) = !(l0.all fun r => decide (r.length = n) && r.all vldS) := by
  cases h : (l0.all fun r => decide (r.length = n) && r.all vldS)
  · rw [List.all_eq_false] at h
    obtain ⟨r, hr, hb⟩ := h
    obtain ⟨j, hj, rfl⟩ := List.getElem_of_mem hr
    rw [Bool.not_false, List.any_eq_true]
    refine ⟨j, by simp; exact hj, ?_⟩
    have e : l0.getD j [] = l0[j] := by rw [List.getD_eq_getElem?_getD, List.getElem?_eq_getElem hj]; rfl
    unfold badR
    rw [e]
    cases h1 : decide (l0[j].length = n) <;> cases h2 : l0[j].all vldS <;> simp_all
  · rw [List.all_eq_true] at h
    rw [Bool.not_true, List.any_eq_false]
    intro j hj
    have hj' : j < l0.length := by simpa using hj
    have := h l0[j] (List.getElem_mem hj')
    have e : l0.getD j [] = l0[j] := by rw [List.getD_eq_getElem?_getD, List.getElem?_eq_getElem hj']; rfl
    unfold badR
    rw [e]
    rw [Bool.and_eq_true] at this
    rw [this.1, this.2]; decide
/-- The test of the rows. -/
theorem rows_test (A0 : Option Addr) (c0 : Nat) (l0 : List (List SR)) (n B : Nat) (w W : World) (hTab : Tab w) (hr0 : Kd.C (Kd.slice 31 kR) w A0 l0.length l0) (hl : l0.length ≤ 100000) (hls : ∀ j, (l0.getD j []).length ≤ 100000)
    (hb : Below w.heap.size w W) (hB : W.heap[B]? = some (.cells #[.int .i64 n] 3 (0, 0))) :
    Calls Tryz.prog 24 #[.slice A0 l0.length c0, .func (.func 25) #[] #[.pointer (some ⟨B, 0, none⟩)]] W fun e w' => e = .returned (.bool (!(l0.all fun r => decide (r.length = n) && r.all vldS))) ∧ Below W.heap.size W w' := by
  obtain ⟨As, cs, hH, hC⟩ := rows_cells hr0
  rw [← any_bad]
  exact contains2_calls A0 c0 l0.length As _ cs 25 _ (badR l0 n) W (hH.below hb) hl (enters_of Tryz.func25 (by kernel_rfl) rfl)
    (fun W' j hW hj => sol1_calls B n (As j) (cs j) (l0.getD j []) W' ((hTab.below hb).below hW) ((hW.block _ (Array.getElem?_eq_some_iff.1 hB).1).trans hB) (Kd.C_below (Kd.C_below (hC j hj) hb) hW) (hls j))
abbrev SolvePost (w : World) (r : List SR × Int) : Ending → World → Prop := fun e w' => ∃ v0_ : Value, e = .returned (.tuple #[v0_, .int .i64 r.2]) ∧ Kd.R kR 31 w' w.heap.size (fun _ => True) v0_ r.1 ∧ Below w.heap.size w w'
set_option maxRecDepth 100000 in
set_option maxHeartbeats 1000000 in
theorem solve_bad (A0 : Option Addr) (c0 : Nat) (l0 : List (List SR)) (A1 : Option Addr) (c1 : Nat) (l1 : List SR) (w : World) (hTab : Tab w)
    (hr0 : Kd.C (Kd.slice 31 kR) w A0 l0.length l0) (hr1 : Kd.C kR w A1 l1.length l1) (hl0 : l0.length ≤ 100000) (hls : ∀ j, (l0.getD j []).length ≤ 100000) (hl1 : l1.length ≤ 100000) (hg : goodA l0 l1 = false) :
    Calls Tryz.prog 12 #[.slice A0 l0.length c0, .slice A1 l1.length c1] w (SolvePost w ([], 1)) := by
  obtain ⟨n, hn⟩ : ∃ n, l1.length = n := ⟨_, rfl⟩
  obtain ⟨m, hm⟩ : ∃ m, l0.length = m := ⟨_, rfl⟩
  have hv : ∀ W, Below w.heap.size w W → Calls Tryz.prog 23 #[.slice A1 n c1] W fun e w' => e = .returned (.bool (l1.all vldS)) ∧ Below W.heap.size W w' := fun W hW => by
    have := valid_calls A1 c1 l1 W (hTab.below hW) (Kd.C_below hr1 hW) hl1
    rwa [hn] at this
  have hc : ∀ W B, Below w.heap.size w W → W.heap[B]? = some (.cells #[.int .i64 n] 3 (0, 0)) → Calls Tryz.prog 24 #[.slice A0 m c0, .func (.func 25) #[] #[.pointer (some ⟨B, 0, none⟩)]] W fun e w' => e = .returned (.bool (!(l0.all fun r => decide (r.length = n) && r.all vldS))) ∧ Below W.heap.size W w' := fun W B hW hB => by
    have := rows_test A0 c0 l0 n B w W hTab hr0 hl0 hls hW hB
    rwa [hm] at this
  have HV := Lib.hid hv
  have HC := Lib.hid hc
  have hg2 : ¬ (m = n) ∨ (m = n ∧ l1.all vldS = false) ∨ (m = n ∧ l1.all vldS = true ∧ (l0.all fun r => decide (r.length = n) && r.all vldS) = false) := by
    unfold goodA at hg
    rw [hm, hn] at hg
    by_cases h : m = n
    · rw [decide_eq_true h] at hg
      cases h2 : l1.all vldS
      · exact .inr (.inl ⟨h, rfl⟩)
      · rw [h2] at hg; exact .inr (.inr ⟨h, rfl, by simpa using hg⟩)
    · exact .inl h
  obtain ⟨va, hva⟩ : ∃ va, l1.all vldS = va := ⟨_, rfl⟩
  obtain ⟨ra, hra⟩ : ∃ ra, (l0.all fun r => decide (r.length = n) && r.all vldS) = ra := ⟨_, rfl⟩
  rw [hva] at HV hg2
  rw [hra] at HC hg2
  rw [hm, hn]
  rw [hn] at hl1
  rw [hm] at hl0
  clear hr0 hr1 hTab hv hc hg hva hra hm hn hls
  have hend : ∀ W, Below w.heap.size w W → SolvePost w ([], 1) (.returned (.tuple #[.slice none 0 0, .int .i64 1])) W := fun W hW => ⟨_, rfl, Kd.R_nil _ _ _ _ _, hW⟩
  have HE := Lib.hid hend
  clear hend
  have hb1 : Hid (Below w.heap.size w (w.alloc (.cells #[.int .i64 n] 3))) := Lib.hid ((Below.refl _ w).alloc (Nat.le_refl _) _)
  have g1 := Lib.hid (World.alloc_heap_new w (.cells #[.int .i64 n] 3))
  rcases hg2 with h | ⟨h, h2⟩ | ⟨h, h2, h3⟩
  · have hne : ((m : Int) != (n : Int)) = true := bne_iff_ne.2 (by omega)
    go_enter Tryz.func12, Tryz.ntmps12
    go_wp2_with fail
    go_ret2
    exact HE.out _ hb1.out
  · subst h
    rw [h2] at HV
    have hne : ((m : Int) != (m : Int)) = false := by simp
    go_enter Tryz.func12, Tryz.ntmps12
    go_wp2_with (go_at_call 23; with_reducible refine (HV.out _ hb1.out).mono ?_; rintro e w1 ⟨rfl, hb⟩; have HB := Lib.hid (hb1.out.trans (hb.mono hb1.out.size)); clear hb)
    go_ret2
    exact HE.out _ HB.out
  · subst h
    rw [h2] at HV
    rw [h3] at HC
    have hne : ((m : Int) != (m : Int)) = false := by simp
    go_enter Tryz.func12, Tryz.ntmps12
    go_wp2_with (first | (go_at_call 23; with_reducible refine (HV.out _ hb1.out).mono ?_; rintro e w1 ⟨rfl, hb⟩; have HB := Lib.hid (hb1.out.trans (hb.mono hb1.out.size)); have G := Lib.hid ((hb.block _ (heap_lt g1.out)).trans g1.out); clear hb) | (go_at_call 24; with_reducible refine (HC.out _ _ HB.out G.out).mono ?_; rintro e w2 ⟨rfl, hb2⟩; have HB2 := Lib.hid (HB.out.trans (hb2.mono HB.out.size)); clear hb2))
    go_ret2
    exact HE.out _ HB2.out
end Go.Proofs.YtmkanjcehhbmlaaGreatDoor.Pr
end

section
namespace Go.Proofs.YtmkanjcehhbmlaaGreatDoor.Pr
set_option linter.unusedSimpArgs false
set_option linter.unusedVariables false
open Go.RowKit Go.Shelf Go.Proofs.YtmkanjcehhbmlaaGreatDoorW.PrintWords Go.Proofs.YtmkanjcehhbmlaaGreatDoorW.PrintLast Go.Proofs.YtmkanjcehhbmlaaGreatDoorW.PrintMore
/-- What is known of the system that came in, in every later world. -/
structure Sys (w : World) (A0 A1 : Option Addr) (n : Nat) (l0 : List (List SR)) (l1 : List SR) (As : Nat → Option Addr) (cs : Nat → Nat) : Prop where
  hdr : Hdr w A0 n As (fun _ => n) cs
  row : ∀ j, j < n → Kd.C kR w (As j) n (l0.getD j [])
  len : ∀ j, j < n → (l0.getD j []).length = n
  rhs : Kd.C kR w A1 n l1
  len1 : l1.length = n
def rowL (ys : List SR) : List Value := ys.flatMap fun s => [.bool s.f0, .string s.f1, .string s.f2]
theorem rowC_L (ys : List SR) : rowC ys = (rowL ys).toArray := rfl
theorem rowL_len (ys : List SR) : (rowL ys).length = ys.length * 3 := rowC_size ys
theorem rowL_app (xs ys : List SR) : rowL (xs ++ ys) = rowL xs ++ rowL ys := by unfold rowL; rw [List.flatMap_append]
theorem rowL_one (ys : List SR) : ∀ v ∈ rowL ys, v.oneCell' = true := fun v hv => by
  unfold rowL at hv
  rw [List.mem_flatMap] at hv
  obtain ⟨s, _, hs⟩ := hv
  simp only [List.mem_cons, List.not_mem_nil, or_false] at hs
  rcases hs with rfl | rfl | rfl <;> rfl
theorem row_src {w : World} {b off : Nat} {xs : List SR} (h : ∀ j, j < xs.length → w.cell? ⟨b, off + j * 3, none⟩ = some (.bool (rdS xs j).f0) ∧ w.cell? ⟨b, off + j * 3 + 1, none⟩ = some (.string (rdS xs j).f1) ∧ w.cell? ⟨b, off + j * 3 + 2, none⟩ = some (.string (rdS xs j).f2)) :
    ∀ j v, (rowL xs)[j]? = some v → w.cell? ((⟨b, off, none⟩ : Addr).add j) = some v := by
  intro j v hv
  have ea : ∀ j, (⟨b, off, none⟩ : Addr).add j = ⟨b, off + j, none⟩ := fun j => by unfold Addr.add; split <;> simp_all
  rw [ea]
  have hj : j < xs.length * 3 := by rw [← rowL_len]; exact (List.getElem?_eq_some_iff.1 hv).1
  obtain ⟨d0, d1, d2⟩ := h (j / 3) (by omega)
  obtain ⟨g0, g1, g2⟩ := rowC_get xs (j / 3) (by omega)
  have hv' : (rowC xs)[j]? = some v := by rw [rowC_L]; simpa using hv
  have h3 : j % 3 = 0 ∨ j % 3 = 1 ∨ j % 3 = 2 := by omega
  rcases h3 with h | h | h
  · rw [show j / 3 * 3 = j by omega] at g0 d0
    rw [g0] at hv'
    rw [d0]; exact hv'
  · rw [show j / 3 * 3 + 1 = j by omega] at g1
    rw [show off + j / 3 * 3 + 1 = off + j by omega] at d1
    rw [g1] at hv'
    rw [d1]; exact hv'
  · rw [show j / 3 * 3 + 2 = j by omega] at g2
    rw [show off + j / 3 * 3 + 2 = off + j by omega] at d2
    rw [g2] at hv'
    rw [d2]; exact hv'
theorem zeros_drop (n : Nat) : (rowC (List.replicate (n + 1) zS)).toList.drop (n * 3) = rowL [zS] := by
  rw [rowC_L, List.replicate_succ', rowL_app]
  show (rowL _ ++ rowL _).drop _ = _
  rw [List.drop_append, List.drop_eq_nil_of_le (by rw [rowL_len, List.length_replicate]; omega), rowL_len, List.length_replicate, Nat.sub_self]
  rfl
theorem Ex.comp {A B : Nat} {W0 W1 W2 : World} (h : Ex A W0 W1) (k : Ex B W1 W2) (hB : W0.heap.size ≤ B) : Ex A W0 W2 :=
  ⟨k.os.trans h.os, k.tape.trans h.tape, k.output.trans h.output, Nat.le_trans h.size k.size, fun i hi hA => (k.block i (Nat.lt_of_lt_of_le hi h.size) (by omega)).trans (h.block i hi hA)⟩
theorem sysM_set (xs : List SR) (n : Nat) (s z : SR) (h : xs.length = n) : (xs ++ [z]).set n s = xs ++ [s] := by
  subst h; simp
theorem copy_row {W : World} {t3 P n c ba offa : Nat} {x0 : List SR} (hP : W.heap[P]? = some (.cells (rowC (List.replicate (n + 1) zS)) 31 (0, 0))) (hl : x0.length = n)
    (hc : ∀ j, j < x0.length → W.cell? ⟨ba, offa + j * 3, none⟩ = some (.bool (rdS x0 j).f0) ∧ W.cell? ⟨ba, offa + j * 3 + 1, none⟩ = some (.string (rdS x0 j).f1) ∧ W.cell? ⟨ba, offa + j * 3 + 2, none⟩ = some (.string (rdS x0 j).f2)) :
    ∃ v W3, (Builtin.copy_ #[23, 23] t3 #[.slice (some ⟨P, 0, none⟩) (n + 1) (n + 1), .slice (some ⟨ba, offa, none⟩) n c]).run Tryz.prog W.drew = .ok v W3 ∧ W3.heap[P]? = some (.cells (rowC (x0 ++ [zS])) 31 (0, 0)) ∧ Ex P W W3 := by
  have hrun := run_copy_wide (P := Tryz.prog) W.drew 23 23 t3 31 P 0 (n + 1) (n + 1) ⟨ba, offa, none⟩ n c 3 (rowC (List.replicate (n + 1) zS)) 31 (rowL x0) Tryz.underlying23 (by kernel_rfl) hP
    (by rw [rowL_len, hl, show Nat.min n (n + 1) = n from Nat.min_eq_left (by omega)]) (row_src (w := W.drew) hc) (by rw [rowL_len, rowC_size, List.length_replicate, hl]; omega) (rowL_one _)
  refine ⟨_, _, hrun, ?_, ?_⟩
  · rw [setRow_heap W.drew P _ _ _ _ hP]
    rw [rowL_len, hl, Nat.zero_add, zeros_drop, rowC_L (x0 ++ [zS]), rowL_app]
    simp
  · exact ⟨rfl, rfl, rfl, by simp [World.setRow], fun k _ hk => setRow_other W.drew P k _ (fun e => hk e)⟩
end Go.Proofs.YtmkanjcehhbmlaaGreatDoor.Pr
end

section
namespace Go.Proofs.YtmkanjcehhbmlaaGreatDoor.Pr
set_option linter.unusedSimpArgs false
set_option linter.unusedVariables false
open Go.RowKit Go.Shelf Go.Proofs.YtmkanjcehhbmlaaGreatDoorW.PrintWords Go.Proofs.YtmkanjcehhbmlaaGreatDoorW.PrintLast Go.Proofs.YtmkanjcehhbmlaaGreatDoorW.PrintMore
theorem sol2_calls (P k R n c : Nat) (ys : List SR) (w : World) (hP : w.heap[P]? = some (.cells #[.int .i64 k] 3 (0, 0))) (hR : w.heap[R]? = some (.cells (rowC ys) 31 (0, 0))) (hk : k < ys.length) (hn : ys.length = n) (hl : n ≤ 100000) :
    Calls Tryz.prog 27 #[.slice (some ⟨R, 0, none⟩) n c, .pointer (some ⟨P, 0, none⟩)] w fun e w' => e = .returned (.bool (!isZ (rdS ys k))) ∧ Below w.heap.size w w' := by
  obtain ⟨x, hx⟩ : ∃ x, rdS ys k = x := ⟨_, rfl⟩
  rw [hx]
  unfold isZ
  cases z0 : x.f0
  · by_cases z1 : x.f1.toList = [48]
    · by_cases z2 : x.f2.toList = [49]
      · rw [z1, z2]; exact sol2_zero P k R n c ys x w hP hR hk hn hl hx z0 z1 z2
      · rw [z1, beq_eq_false_iff_ne.2 z2]; exact sol2_den P k R n c ys x w hP hR hk hn hl hx z0 z1 z2
    · rw [beq_eq_false_iff_ne.2 z1]; exact sol2_num P k R n c ys x w hP hR hk hn hl hx z0 z1
  · exact sol2_neg P k R n c ys x w hP hR hk hn hl hx z0
/-- The search for the pivot. -/
theorem piv_calls {w0 W : World} {NB HB n k KB : Nat} {ps : Nat → Nat} {M : Nat → List SR} (h : Mat w0 W NB HB n ps M) (hk : k < n) (hn : n ≤ 8) (hK : W.heap[KB]? = some (.cells #[.int .i64 k] 3 (0, 0))) (c : Nat) :
    Calls Tryz.prog 26 #[.slice (some ⟨HB, k, none⟩) (n - k) c, .func (.func 27) #[] #[.pointer (some ⟨KB, 0, none⟩)]] W fun e w' => e = .returned (.int .i64 (pivI n k M)) ∧ Below W.heap.size W w' := by
  refine index2_calls (some ⟨HB, k, none⟩) c (n - k) (fun j => some ⟨ps (k + j), 0, none⟩) (fun _ => n + 1) (fun _ => n + 1) 27 _ (fun j => !isZ (rdS (M (k + j)) k)) W (fun _ => ⟨HB, k, rfl, heap_lt h.hb, fun j hj => (h.hb.get (j := k + j) (by omega)).1⟩) (by omega) (enters_of Tryz.func27 (by kernel_rfl) rfl) (fun W' j hW hj => ?_)
  have hr := h.row (k + j) (by omega)
  exact sol2_calls KB k (ps (k + j)) (n + 1) (n + 1) (M (k + j)) W' ((hW.block _ (heap_lt hK)).trans hK) ((hW.block _ (heap_lt hr)).trans hr) (by rw [h.len _ (by omega)]; omega) (h.len _ (by omega)) (by omega)
theorem pivI_cases (n k : Nat) (M : Nat → List SR) (hk : k < n) : (pivI n k M < 0) ∨ ∃ f : Nat, pivI n k M = (f : Int) ∧ k + f < n := by
  have hsp := findI_spec (fun j => !isZ (rdS (M (k + j)) k)) (n - k) 0
  by_cases hp : pivI n k M < 0
  · exact .inl hp
  · obtain ⟨h1, h2, _⟩ := hsp.2 hp
    exact .inr ⟨(pivI n k M).toNat, by omega, by have : (pivI n k M).toNat < 0 + (n - k) := h2; omega⟩
/-- The pivot row is divided. -/
theorem divrow_calls {w0 W : World} {NB HB n k PB : Nat} {ps : Nat → Nat} {M : Nat → List SR} {p : SR} (hTab : Tab w0) (h : Mat w0 W NB HB n ps M) (hk : k < n) (hn : n ≤ 8) (hP : BoxS W PB p) (hne : PB ≠ ps k) (c : Nat) :
    Calls Tryz.prog 29 #[.slice (some ⟨ps k, k * 3, none⟩) (n + 1 - k) c, .func (.func 30) #[] #[.pointer (some ⟨PB, 0, none⟩)]] W fun e w' => e = .returned (.int .i64 (chg (fun _ x => divS x p) k (n + 1 - k) 0 (M k)).2) ∧ Mat w0 w' NB HB n ps (upd M k (chg (fun _ x => divS x p) k (n + 1 - k) 0 (M k)).1) ∧ Ex (ps k) W w' := by
  refine (change_calls (ps k) k (n + 1 - k) c (M k) 30 _ (fun _ x => divS x p) W (h.row k hk) (by rw [h.len k hk]; omega) (by rw [h.len k hk]; omega) (enters_of Tryz.func30 (by kernel_rfl) rfl) (fun W' j x hW hj => ?_)).mono ?_
  · exact sol3_calls PB p x j W' (hTab.below (h.bel.trans (hW.toBelow (h.lor k hk) h.bel.size))) ((hW.block _ (heap_lt hP) hne).trans hP)
  · rintro e w' ⟨rfl, h1, h2⟩
    exact ⟨rfl, h.rowEx hk h2 h1 (by rw [chg_len, h.len k hk]), h2⟩
/-- A multiple of the pivot row is taken from row i. -/
theorem elimrow_calls {w0 W : World} {NB HB n k i FB VB : Nat} {ps : Nat → Nat} {M : Nat → List SR} {f : SR} {cv : Nat} (hTab : Tab w0) (h : Mat w0 W NB HB n ps M) (hk : k < n) (hi : i < n) (hik : i ≠ k) (hn : n ≤ 8) (hF : BoxS W FB f) (hV : W.heap[VB]? = some (.cells #[.slice (some ⟨ps k, k * 3, none⟩) (n + 1 - k) cv] 23 (0, 0))) (hf : FB ≠ ps i) (hv : VB ≠ ps i) (c : Nat) :
    Calls Tryz.prog 29 #[.slice (some ⟨ps i, k * 3, none⟩) (n + 1 - k) c, .func (.func 32) #[] #[.pointer (some ⟨FB, 0, none⟩), .pointer (some ⟨VB, 0, none⟩)]] W fun e w' => e = .returned (.int .i64 (chg (elimS f (M k) k) k (n + 1 - k) 0 (M i)).2) ∧ Mat w0 w' NB HB n ps (upd M i (chg (elimS f (M k) k) k (n + 1 - k) 0 (M i)).1) ∧ Ex (ps i) W w' := by
  refine (change_calls (ps i) k (n + 1 - k) c (M i) 32 _ (elimS f (M k) k) W (h.row i hi) (by rw [h.len i hi]; omega) (by rw [h.len i hi]; omega) (enters_of Tryz.func32 (by kernel_rfl) rfl) (fun W' j x hW hj => ?_)).mono ?_
  · exact sol4_calls FB VB (ps k) k (n + 1 - k) cv f x (M k) j W' (hTab.below (h.bel.trans (hW.toBelow (h.lor i hi) h.bel.size))) ((hW.block _ (heap_lt hF) hf).trans hF) ((hW.block _ (heap_lt hV) hv).trans hV)
      ((hW.block _ (heap_lt (h.row k hk)) (fun e => hik (h.inj i k hi hk e.symm))).trans (h.row k hk)) hj (by rw [h.len k hk]; omega) (by rw [h.len k hk]; omega)
  · rintro e w' ⟨rfl, h1, h2⟩
    exact ⟨rfl, h.rowEx hi h2 h1 (by rw [chg_len, h.len i hi]), h2⟩
def rdc (W : World) (p : Addr) : Value := (W.cell? p).getD undef
theorem rdc_of {W : World} {p : Addr} {v : Value} (h : W.cell? p = some v) : W.cell? p = some (rdc W p) := by rw [rdc, h]; rfl
theorem rdc_val {W : World} {p : Addr} {v : Value} (h : W.cell? p = some v) : rdc W p = v := by rw [rdc, h]; rfl
theorem ne_type {W : World} {a b : Nat} {c1 c2 : Array Value} {t1 t2 : TypeId} (h1 : W.heap[a]? = some (.cells c1 t1 (0, 0))) (h2 : W.heap[b]? = some (.cells c2 t2 (0, 0))) (ht : t1 ≠ t2) : a ≠ b := fun e => by
  rw [e, h2] at h1
  injection h1 with h1
  injection h1 with _ h1
  exact ht h1.symm
/-- solI's step, opened. -/
theorem solI_step {n d k f : Nat} {M M2 : Nat → List SR} {dr : List SR × Int} (hf : pivI n k M = (f : Int)) (hd : divR n k (k + f) M = dr) (h2 : upd (fun i => M (Ga.sw k (k + f) i)) k dr.1 = M2) :
    solI n (d + 1) k M = if dr.2 = 0 then (if (elimI dr.1 n k n 0 M2).2 = 0 then solI n d (k + 1) (elimI dr.1 n k n 0 M2).1 else (M, (elimI dr.1 n k n 0 M2).2)) else (M, dr.2) := by
  rw [solI, if_neg (by rw [hf]; omega), hf, Int.toNat_natCast, hd, h2]
theorem elimI_skip {pv : List SR} {n k d i : Nat} {M : Nat → List SR} (h : i = k ∨ isZ (rdS (M i) k) = true) : elimI pv n k (d + 1) i M = elimI pv n k d (i + 1) M := by rw [elimI, if_pos h]
theorem elimI_ok1 {pv : List SR} {n k d i : Nat} {M : Nat → List SR} (h : ¬ (i = k ∨ isZ (rdS (M i) k) = true)) (h0 : (chg (elimS (rdS (M i) k) pv k) k (n + 1 - k) 0 (M i)).2 = 0) : elimI pv n k (d + 1) i M = elimI pv n k d (i + 1) (upd M i (chg (elimS (rdS (M i) k) pv k) k (n + 1 - k) 0 (M i)).1) := by rw [elimI, if_neg h, if_pos h0]
theorem elimI_err1 {pv : List SR} {n k d i : Nat} {M : Nat → List SR} (h : ¬ (i = k ∨ isZ (rdS (M i) k) = true)) (h0 : ¬ (chg (elimS (rdS (M i) k) pv k) k (n + 1 - k) 0 (M i)).2 = 0) : elimI pv n k (d + 1) i M = (M, (chg (elimS (rdS (M i) k) pv k) k (n + 1 - k) 0 (M i)).2) := by rw [elimI, if_neg h, if_neg h0]
theorem upd_self {M : Nat → List SR} {k : Nat} {r : List SR} : upd M k r k = r := by unfold upd; rw [if_pos rfl]
theorem upd_other {M : Nat → List SR} {k i : Nat} {r : List SR} (h : i ≠ k) : upd M k r i = M i := by unfold upd; rw [if_neg h]
end Go.Proofs.YtmkanjcehhbmlaaGreatDoor.Pr
end
