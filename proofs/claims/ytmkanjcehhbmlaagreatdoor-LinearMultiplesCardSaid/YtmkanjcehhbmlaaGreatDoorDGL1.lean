/- Small functions of package linear: zero, valid. slices.IndexFunc and ContainsFunc over rows. linear.change: a function over the numbers of a row, in place. The closures of linear.Solve. linear.Solve's second closure: a row's number at column k is not 0. linear.Solve's fourth closure: r minus f times pivot[j]. -/
import Derived.Deep.RegionHeld3
import Derived.Deep.DeepCutAuto
import Derived.Test.YtmkanjcehhbmlaaGreatDoorDBuild
import Derived.Test.YtmkanjcehhbmlaaGreatDoorDFmt
import Derived.Test.YtmkanjcehhbmlaaGreatDoorDGN
import Derived.Test.YtmkanjcehhbmlaaGreatDoorDGN2
import Derived.Test.YtmkanjcehhbmlaaGreatDoorDGN3
import Derived.Test.YtmkanjcehhbmlaaGreatDoorDGRR
import Derived.Test.YtmkanjcehhbmlaaGreatDoorDGRS
import Derived.Test.YtmkanjcehhbmlaaGreatDoorDGW
import Derived.Test.YtmkanjcehhbmlaaGreatDoorDGW2
import Derived.Test.YtmkanjcehhbmlaaGreatDoorDNatApply
import Derived.Test.YtmkanjcehhbmlaaGreatDoorDNatS
import Derived.Test.YtmkanjcehhbmlaaGreatDoorDNum
import Derived.Test.YtmkanjcehhbmlaaGreatDoorDNumAdd
import Derived.Test.YtmkanjcehhbmlaaGreatDoorDNumCmp
import Derived.Test.YtmkanjcehhbmlaaGreatDoorDNumDiv
import Derived.Test.YtmkanjcehhbmlaaGreatDoorDNumIs
import Derived.Test.YtmkanjcehhbmlaaGreatDoorDNumMul
import Derived.Test.YtmkanjcehhbmlaaGreatDoorDNumOps
import Derived.Test.YtmkanjcehhbmlaaGreatDoorDNumParse
import Derived.Test.YtmkanjcehhbmlaaGreatDoorDNumText
import Derived.Test.YtmkanjcehhbmlaaGreatDoorDNumVal
import Derived.Test.YtmkanjcehhbmlaaGreatDoorDPrA1
import Derived.Test.YtmkanjcehhbmlaaGreatDoorDPrA11
import Derived.Test.YtmkanjcehhbmlaaGreatDoorDPrA4
import Derived.Test.YtmkanjcehhbmlaaGreatDoorDPrA5
import Derived.Test.YtmkanjcehhbmlaaGreatDoorDPrB1
import Derived.Test.YtmkanjcehhbmlaaGreatDoorDPrB2
import Derived.Test.YtmkanjcehhbmlaaGreatDoorDRatOps
import Derived.Test.YtmkanjcehhbmlaaGreatDoorDRatProd
import Derived.Test.YtmkanjcehhbmlaaGreatDoorDRatSum
import Derived.Test.YtmkanjcehhbmlaaGreatDoorDRatVal
import Derived.Test.YtmkanjcehhbmlaaGreatDoorDShelf
import Derived.Test.YtmkanjcehhbmlaaGreatDoorDSpec
import Derived.Test.YtmkanjcehhbmlaaGreatDoorDTab
import Derived.Test.YtmkanjcehhbmlaaGreatDoorDWLast
set_option linter.all false
section
namespace Go.Proofs.YtmkanjcehhbmlaaGreatDoor.Pr
set_option linter.unusedSimpArgs false
set_option linter.unusedVariables false
open Go.RowKit Go.Shelf Go.Proofs.YtmkanjcehhbmlaaGreatDoorW.PrintWords Go.Proofs.YtmkanjcehhbmlaaGreatDoorW.PrintLast Go.Proofs.YtmkanjcehhbmlaaGreatDoorW.PrintMore
abbrev SR := S31
abbrev kR := k31
/-- A number as a value. -/
abbrev vS (s : SR) : Value := .agg #[.bool s.f0, .string s.f1, .string s.f2]
def vldS (s : SR) : Bool := Sp.vld s.f0 s.f1 s.f2
set_option maxRecDepth 100000 in
theorem zero_calls (w : World) :
    Calls Tryz.prog 28 #[] w fun e w' => e = .returned (.agg #[.bool false, .string ⟨#[48]⟩, .string ⟨#[49]⟩]) ∧ Below w.heap.size w w' := by
  have g := World.alloc_heap_new w (.cells #[.bool false, .string ⟨#[]⟩, .string ⟨#[]⟩] 31)
  go_enter Tryz.func28, Tryz.ntmps28
  go_wp2
  refine bodyPost_ret (results_cell_row rfl _ _ w.heap.size 31 _ (0, 0) _ rfl (World.alloc_heap_new w _) Tryz.underlying31 rfl (by kernel_rfl)) rfl ?_
  exact ⟨rfl, (Below.refl _ w).alloc (Nat.le_refl _) _⟩
set_option maxRecDepth 100000 in
theorem valid1_calls (s : SR) (w : World) (hTab : Tab w) :
    Calls Tryz.prog 45 #[vS s] w fun e w' => e = .returned (.bool (!vldS s)) ∧ Below w.heap.size w w' := by
  have V := Lib.hid (fun w hT => ratio_Valid.calls 1 s.f0 s.f1 s.f2 (vldS s) w hT (by rw [valid_val]; rfl))
  have HT := Lib.hid (fun o => hTab.below ((Below.refl _ w).alloc (Nat.le_refl _) o))
  clear hTab
  go_enter Tryz.func45, Tryz.ntmps45
  go_wp2_with (go_at_call 19; with_reducible refine (V.out _ (HT.out _)).mono ?_; rintro e w1 ⟨rfl, hb⟩)
  go_ret
  exact ⟨rfl, ((Below.refl _ w).alloc (Nat.le_refl _) _).trans (hb.mono (by simp))⟩
def rdS (xs : List SR) (j : Nat) : SR := xs.getD j ⟨false, ⟨#[]⟩, ⟨#[]⟩⟩
theorem rat_cells {w : World} {A : Option Addr} {xs : List SR} (h : Kd.C kR w A xs.length xs) (h0 : 0 < xs.length) :
    ∃ b off, A = some ⟨b, off, none⟩ ∧ b < w.heap.size ∧ ∀ j, j < xs.length → w.cell? ⟨b, off + j * 3, none⟩ = some (.bool (rdS xs j).f0) ∧ w.cell? ⟨b, off + j * 3 + 1, none⟩ = some (.string (rdS xs j).f1) ∧ w.cell? ⟨b, off + j * 3 + 2, none⟩ = some (.string (rdS xs j).f2) := by
  obtain ⟨ad, e, hc⟩ := h.2.2 h0
  have key : ∀ j, j < xs.length → w.cell? (ad.add (j * 3)) = some (.bool (rdS xs j).f0) ∧ w.cell? (ad.add (j * 3 + 1)) = some (.string (rdS xs j).f1) ∧ w.cell? (ad.add (j * 3 + 2)) = some (.string (rdS xs j).f2) := fun j hj => by
    have hx : xs[j]? = some (rdS xs j) := by unfold rdS; rw [List.getD_eq_getElem?_getD, List.getElem?_eq_getElem hj]; rfl
    obtain ⟨c, hl, hK, hcc⟩ := hc j _ hx
    have hK' := k31_open hK
    subst hK'
    exact ⟨hcc 0 _ rfl, hcc 1 _ rfl, hcc 2 _ rfl⟩
  have h00 := (key 0 h0).1
  have hsp : ad.spot = none := by
    cases hs : ad.spot with
    | none => rfl
    | some x =>
      exfalso
      have e0 : ad.add (0 * 3) = ad := by simp [Addr.add]
      rw [e0] at h00
      unfold World.cell? at h00
      split at h00
      · rw [hs] at h00; simp at h00
      · simp at h00
  obtain ⟨b, off, sp⟩ := ad
  simp only at hsp
  subst hsp
  have ea : ∀ j, (⟨b, off, none⟩ : Addr).add j = ⟨b, off + j, none⟩ := fun j => by unfold Addr.add; split <;> simp_all
  refine ⟨b, off, e, ?_, fun j hj => ?_⟩
  · rw [ea] at h00
    exact World.block_lt_of_cell? w _ h00
  · have := key j hj
    rw [ea, ea, ea, ← Nat.add_assoc, ← Nat.add_assoc] at this
    exact this
/-- The first index at which p is true, or -1. -/
def findI {α : Type} (p : α → Bool) : List α → Int → Int
  | [], _ => -1
  | x :: l, i => if p x then i else findI p l (i + 1)
set_option maxRecDepth 100000 in
set_option maxHeartbeats 1000000 in
theorem indexR_calls (A : Option Addr) (c : Nat) (xs : List SR) (g : Nat) (cb : Array Value) (p : SR → Bool) (w : World) (hx : Kd.C kR w A xs.length xs) (hl : xs.length ≤ 100000) (eg : ∀ args w, (callFunc g args).run Tryz.prog w = .ok (.enter g args) w)
    (hf : ∀ (W : World) (x : SR), Below w.heap.size w W → Calls Tryz.prog g (#[vS x] ++ cb) W fun e w' => e = .returned (.bool (p x)) ∧ Below W.heap.size W w') :
    Calls Tryz.prog 66 #[.slice A xs.length c, .func (.func g) #[] cb] w fun e w' => e = .returned (.int .i64 (findI p xs 0)) ∧ Below w.heap.size w w' := by
  have HF := Lib.hid hf
  have HX := Lib.hid hx
  clear hf hx
  go_enter Tryz.func66, Tryz.ntmps66
  go_wp2
  go_loopw [8] (fun i wr => ∃ k : Nat, k ≤ xs.length ∧ i = .int .i64 k ∧ Hid (findI p xs 0 = findI p (xs.drop k) k) ∧ Hid (Below w.heap.size w wr))
    (fun i _ => (xs.length - intOf i).toNat)
  case atStart => exact ⟨0, Nat.zero_le _, rfl, Lib.hid rfl, Lib.hid (Below.refl _ _)⟩
  case round =>
    obtain ⟨k, hk, rfl, HI, HW⟩ := hrel
    by_cases hlt : k < xs.length
    · obtain ⟨b, off, rfl, hb, hcs⟩ := rat_cells HX.out (by omega)
      obtain ⟨d0, d1, d2⟩ := hcs k hlt
      have c0 := (HW.out.cell (p := ⟨b, off + k * 3, none⟩) hb).trans d0
      have c1 := (HW.out.cell (p := ⟨b, off + k * 3 + 1, none⟩) hb).trans d1
      have c2 := (HW.out.cell (p := ⟨b, off + k * 3 + 2, none⟩) hb).trans d2
      have hdrop : xs.drop k = rdS xs k :: xs.drop (k + 1) := by
        unfold rdS
        rw [List.getD_eq_getElem?_getD, List.getElem?_eq_getElem hlt]
        exact List.drop_eq_getElem_cons hlt
      have HD := Lib.hid hdrop
      clear hdrop hcs d0 d1 d2
      generalize rdS xs k = x at *
      have hfx := HF.out wr x HW.out
      cases hp : p x
      · rw [hp] at hfx
        have HP := Lib.hid hp
        have HFX := Lib.hid hfx
        clear hfx hp
        go_wp2_with fail
        refine HFX.out.mono ?_
        rintro e w1 ⟨rfl, hb1⟩
        go_wp2
        go_roundw
        case rel =>
          refine ⟨k + 1, hlt, rfl, Lib.hid ?_, Lib.hid (HW.out.trans (hb1.mono HW.out.size))⟩
          rw [HI.out, HD.out, findI, HP.out, if_neg (by decide)]
          rfl
        case measure => simp only [intOf]; omega
      · rw [hp] at hfx
        have HP := Lib.hid hp
        have HFX := Lib.hid hfx
        clear hfx hp
        go_wp2_with fail
        refine HFX.out.mono ?_
        rintro e w1 ⟨rfl, hb1⟩
        go_wp2
        go_ret
        refine ⟨?_, HW.out.trans (hb1.mono HW.out.size)⟩
        rw [HI.out, HD.out, findI, HP.out, if_pos rfl]
        rfl
    · obtain rfl : k = xs.length := by omega
      go_wp2
      go_ret
      refine ⟨?_, HW.out⟩
      rw [HI.out, List.drop_length, findI]
      rfl
theorem findI_any {α : Type} (p : α → Bool) : ∀ (xs : List α) (i : Int), 0 ≤ i → decide (0 ≤ findI p xs i) = xs.any p
  | [], i, _ => by rw [findI]; rfl
  | x :: xs, i, h => by
    rw [findI, List.any_cons]
    cases hp : p x
    · rw [if_neg (by decide), findI_any p xs (i + 1) (by omega)]; rfl
    · rw [if_pos rfl, decide_eq_true h]; rfl
set_option maxRecDepth 100000 in
set_option maxHeartbeats 1000000 in
theorem containsR_calls (A : Option Addr) (c : Nat) (xs : List SR) (g : Nat) (cb : Array Value) (p : SR → Bool) (w : World) (hx : Kd.C kR w A xs.length xs) (hl : xs.length ≤ 100000) (eg : ∀ args w, (callFunc g args).run Tryz.prog w = .ok (.enter g args) w)
    (hf : ∀ (W : World) (x : SR), Below w.heap.size w W → Calls Tryz.prog g (#[vS x] ++ cb) W fun e w' => e = .returned (.bool (p x)) ∧ Below W.heap.size W w') :
    Calls Tryz.prog 44 #[.slice A xs.length c, .func (.func g) #[] cb] w fun e w' => e = .returned (.bool (xs.any p)) ∧ Below w.heap.size w w' := by
  have HI := Lib.hid (indexR_calls A c xs g cb p w hx hl eg hf)
  have HA := Lib.hid (findI_any p xs 0 (Int.le_refl _))
  clear hx hf
  go_enter Tryz.func44, Tryz.ntmps44
  go_wp2_with (go_at_call 66; with_reducible refine HI.out.mono ?_; rintro e w1 ⟨rfl, hb⟩)
  go_ret
  exact ⟨by rw [← HA.out]; rfl, hb⟩
set_option maxRecDepth 100000 in
set_option maxHeartbeats 1000000 in
theorem valid_calls (A : Option Addr) (c : Nat) (xs : List SR) (w : World) (hTab : Tab w) (hx : Kd.C kR w A xs.length xs) (hl : xs.length ≤ 100000) :
    Calls Tryz.prog 23 #[.slice A xs.length c] w fun e w' => e = .returned (.bool (xs.all vldS)) ∧ Below w.heap.size w w' := by
  have HI := Lib.hid (containsR_calls A c xs 45 #[] (fun s => !vldS s) w hx hl (enters_of Tryz.func45 (by kernel_rfl) rfl) (fun W x hW => valid1_calls x W (hTab.below hW)))
  have HA : Hid ((!(xs.any fun s => !vldS s)) = xs.all vldS) := Lib.hid (by rw [List.not_any_eq_all_not]; simp)
  clear hx hTab
  go_enter Tryz.func23, Tryz.ntmps23
  go_wp2_with (go_at_call 44; with_reducible refine HI.out.mono ?_; rintro e w1 ⟨rfl, hb⟩)
  go_ret
  exact ⟨by rw [← HA.out]; rfl, hb⟩
end Go.Proofs.YtmkanjcehhbmlaaGreatDoor.Pr
end

section
namespace Go.Proofs.YtmkanjcehhbmlaaGreatDoor.Pr
set_option linter.unusedSimpArgs false
set_option linter.unusedVariables false
open Go.RowKit Go.Shelf Go.Proofs.YtmkanjcehhbmlaaGreatDoorW.PrintWords Go.Proofs.YtmkanjcehhbmlaaGreatDoorW.PrintLast Go.Proofs.YtmkanjcehhbmlaaGreatDoorW.PrintMore
/-- The rows' slices lie in a row of cells. -/
def Hdr (w : World) (A : Option Addr) (n : Nat) (As : Nat → Option Addr) (ns cs : Nat → Nat) : Prop :=
  0 < n → ∃ b off, A = some ⟨b, off, none⟩ ∧ b < w.heap.size ∧ ∀ j, j < n → w.cell? ⟨b, off + j, none⟩ = some (.slice (As j) (ns j) (cs j))
set_option maxRecDepth 100000 in
set_option maxHeartbeats 1000000 in
theorem index2_calls (A : Option Addr) (c n : Nat) (As : Nat → Option Addr) (ns cs : Nat → Nat) (g : Nat) (cb : Array Value) (p : Nat → Bool) (w : World) (hx : Hdr w A n As ns cs) (hl : n ≤ 100000) (eg : ∀ args w, (callFunc g args).run Tryz.prog w = .ok (.enter g args) w)
    (hf : ∀ (W : World) (j : Nat), Below w.heap.size w W → j < n → Calls Tryz.prog g (#[.slice (As j) (ns j) (cs j)] ++ cb) W fun e w' => e = .returned (.bool (p j)) ∧ Below W.heap.size W w') :
    Calls Tryz.prog 26 #[.slice A n c, .func (.func g) #[] cb] w fun e w' => e = .returned (.int .i64 (findI p (List.range' 0 n) 0)) ∧ Below w.heap.size w w' := by
  have HF := Lib.hid hf
  have HX := Lib.hid hx
  clear hf hx
  go_enter Tryz.func26, Tryz.ntmps26
  go_wp2
  go_loopw [8] (fun i wr => ∃ k : Nat, k ≤ n ∧ i = .int .i64 k ∧ Hid (findI p (List.range' 0 n) 0 = findI p (List.range' k (n - k)) k) ∧ Hid (Below w.heap.size w wr))
    (fun i _ => (n - intOf i).toNat)
  case atStart => exact ⟨0, Nat.zero_le _, rfl, Lib.hid rfl, Lib.hid (Below.refl _ _)⟩
  case round =>
    obtain ⟨k, hk, rfl, HI, HW⟩ := hrel
    by_cases hlt : k < n
    · obtain ⟨b, off, rfl, hb, hcs⟩ := HX.out (by omega)
      have c0 := (HW.out.cell (p := ⟨b, off + k, none⟩) hb).trans (hcs k hlt)
      have hdrop : List.range' k (n - k) = k :: List.range' (k + 1) (n - (k + 1)) := by
        rw [show n - k = (n - (k + 1)) + 1 by omega, List.range'_succ]
      have HD := Lib.hid hdrop
      have hfx := HF.out wr k HW.out hlt
      clear hdrop hcs
      generalize As k = Ak at *
      generalize ns k = nk at *
      generalize cs k = ck at *
      cases hp : p k
      · rw [hp] at hfx
        have HP := Lib.hid hp
        have HFX := Lib.hid hfx
        clear hfx hp
        go_wp2_with fail
        refine HFX.out.mono ?_
        rintro e w1 ⟨rfl, hb1⟩
        go_wp2
        go_roundw
        case rel =>
          refine ⟨k + 1, hlt, rfl, Lib.hid ?_, Lib.hid (HW.out.trans (hb1.mono HW.out.size))⟩
          rw [HI.out, HD.out, findI, HP.out, if_neg (by decide)]
          rfl
        case measure => simp only [intOf]; omega
      · rw [hp] at hfx
        have HP := Lib.hid hp
        have HFX := Lib.hid hfx
        clear hfx hp
        go_wp2_with fail
        refine HFX.out.mono ?_
        rintro e w1 ⟨rfl, hb1⟩
        go_wp2
        go_ret
        refine ⟨?_, HW.out.trans (hb1.mono HW.out.size)⟩
        rw [HI.out, HD.out, findI, HP.out, if_pos rfl]
        rfl
    · obtain rfl : k = n := by omega
      go_wp2
      go_ret
      refine ⟨?_, HW.out⟩
      rw [HI.out, Nat.sub_self, List.range'_zero, findI]
      rfl
set_option maxRecDepth 100000 in
set_option maxHeartbeats 1000000 in
theorem contains2_calls (A : Option Addr) (c n : Nat) (As : Nat → Option Addr) (ns cs : Nat → Nat) (g : Nat) (cb : Array Value) (p : Nat → Bool) (w : World) (hx : Hdr w A n As ns cs) (hl : n ≤ 100000) (eg : ∀ args w, (callFunc g args).run Tryz.prog w = .ok (.enter g args) w)
    (hf : ∀ (W : World) (j : Nat), Below w.heap.size w W → j < n → Calls Tryz.prog g (#[.slice (As j) (ns j) (cs j)] ++ cb) W fun e w' => e = .returned (.bool (p j)) ∧ Below W.heap.size W w') :
    Calls Tryz.prog 24 #[.slice A n c, .func (.func g) #[] cb] w fun e w' => e = .returned (.bool ((List.range' 0 n).any p)) ∧ Below w.heap.size w w' := by
  have HI := Lib.hid (index2_calls A c n As ns cs g cb p w hx hl eg hf)
  have HA := Lib.hid (findI_any p (List.range' 0 n) 0 (Int.le_refl _))
  clear hx hf
  go_enter Tryz.func24, Tryz.ntmps24
  go_wp2_with (go_at_call 26; with_reducible refine HI.out.mono ?_; rintro e w1 ⟨rfl, hb⟩)
  go_ret
  exact ⟨by rw [← HA.out]; rfl, hb⟩
end Go.Proofs.YtmkanjcehhbmlaaGreatDoor.Pr
end

section
namespace Go.Proofs.YtmkanjcehhbmlaaGreatDoor.Pr
set_option linter.unusedSimpArgs false
set_option linter.unusedVariables false
open Go.RowKit Go.Shelf Go.Proofs.YtmkanjcehhbmlaaGreatDoorW.PrintWords Go.Proofs.YtmkanjcehhbmlaaGreatDoorW.PrintLast Go.Proofs.YtmkanjcehhbmlaaGreatDoorW.PrintMore
/-- The cells of a row of numbers. -/
def rowC (ys : List SR) : Array Value := (ys.flatMap fun s => [.bool s.f0, .string s.f1, .string s.f2]).toArray
/-- W' is W but for block R. -/
structure Ex (R : Nat) (W W' : World) : Prop where
  os : W'.os = W.os
  tape : W'.tape = W.tape
  output : W'.output = W.output
  size : W.heap.size ≤ W'.heap.size
  block : ∀ k, k < W.heap.size → k ≠ R → W'.heap[k]? = W.heap[k]?
theorem Ex.refl (R : Nat) (W : World) : Ex R W W := ⟨rfl, rfl, rfl, Nat.le_refl _, fun _ _ _ => rfl⟩
theorem Ex.trans {R : Nat} {A B C : World} (h : Ex R A B) (k : Ex R B C) : Ex R A C :=
  ⟨k.os.trans h.os, k.tape.trans h.tape, k.output.trans h.output, Nat.le_trans h.size k.size, fun i hi hr => (k.block i (Nat.lt_of_lt_of_le hi h.size) hr).trans (h.block i hi hr)⟩
theorem Ex.below {R : Nat} {W W' : World} (h : Below W.heap.size W W') : Ex R W W' := ⟨h.os, h.tape, h.output, h.size, fun k hk _ => h.block k hk⟩
theorem Ex.setCell {R : Nat} (W : World) (o : Nat) (v : Value) : Ex R W (W.setCell ⟨R, o, none⟩ v) :=
  have h := (Below.refl R W).setCell (p := ⟨R, o, none⟩) (Nat.le_refl _) v
  ⟨h.os, h.tape, h.output, h.size, fun k _ hr => Below.heap_setCell _ _ _ _ hr⟩
theorem Ex.toBelow {R B : Nat} {W W' : World} (h : Ex R W W') (hR : B ≤ R) (hB : B ≤ W.heap.size) : Below B W W' := ⟨h.os, h.tape, h.output, h.size, fun k hk => h.block k (by omega) (by omega)⟩
theorem rowC_size (ys : List SR) : (rowC ys).size = ys.length * 3 := by
  unfold rowC
  induction ys with
  | nil => rfl
  | cons y ys ih => simp at ih ⊢; omega
theorem rowC_get : ∀ (ys : List SR) (j : Nat), j < ys.length → (rowC ys)[j * 3]? = some (.bool (rdS ys j).f0) ∧ (rowC ys)[j * 3 + 1]? = some (.string (rdS ys j).f1) ∧ (rowC ys)[j * 3 + 2]? = some (.string (rdS ys j).f2)
  | y :: ys, 0, _ => by simp [rowC, rdS]
  | y :: ys, j + 1, h => by
    have ih := rowC_get ys j (by simpa using h)
    have e : ∀ i, (rowC (y :: ys))[i + 3]? = (rowC ys)[i]? := fun i => by simp [rowC]
    rw [show (j + 1) * 3 = j * 3 + 3 by omega, show j * 3 + 3 + 1 = (j * 3 + 1) + 3 by omega, show j * 3 + 3 + 2 = (j * 3 + 2) + 3 by omega, e, e, e]
    exact ih
theorem rowC_set : ∀ (ys : List SR) (j : Nat) (s : SR), j < ys.length → (((rowC ys).setIfInBounds (j * 3) (.bool s.f0)).setIfInBounds (j * 3 + 1) (.string s.f1)).setIfInBounds (j * 3 + 2) (.string s.f2) = rowC (ys.set j s)
  | y :: ys, 0, s, _ => by simp [rowC]
  | y :: ys, j + 1, s, h => by
    have ih := rowC_set ys j s (by simpa using h)
    apply Array.toList_inj.1
    have ih2 := congrArg Array.toList ih
    unfold rowC at ih2 ⊢
    simp at ih2 ⊢
    rw [show (j + 1) * 3 = j * 3 + 2 + 1 by omega]
    simpa using ih2
/-- What change makes of a row: d numbers from place i on (s: where the slice begins); it stops at the first error. -/
def chg (fn : Nat → SR → SR × Int) (s : Nat) : Nat → Nat → List SR → List SR × Int
  | 0, _, ys => (ys, 0)
  | d + 1, i, ys => if (fn i (rdS ys (s + i))).2 = 0 then chg fn s d (i + 1) (ys.set (s + i) (fn i (rdS ys (s + i))).1) else (ys, (fn i (rdS ys (s + i))).2)
theorem row_cells {W : World} {R : Nat} {ys : List SR} {j : Nat} (h : W.heap[R]? = some (.cells (rowC ys) 31 (0, 0))) (hj : j < ys.length) :
    W.cell? ⟨R, j * 3, none⟩ = some (.bool (rdS ys j).f0) ∧ W.cell? ⟨R, j * 3 + 1, none⟩ = some (.string (rdS ys j).f1) ∧ W.cell? ⟨R, j * 3 + 2, none⟩ = some (.string (rdS ys j).f2) ∧
      W.frozen? ⟨R, j * 3, none⟩ = false ∧ W.frozen? ⟨R, j * 3 + 1, none⟩ = false ∧ W.frozen? ⟨R, j * 3 + 2, none⟩ = false := by
  obtain ⟨h0, h1, h2⟩ := rowC_get ys j hj
  refine ⟨?_, ?_, ?_, ?_, ?_, ?_⟩ <;> simp [World.cell?, World.frozen?, h, h0, h1, h2]
theorem row_put {W : World} {R : Nat} {ys : List SR} {j : Nat} (h : W.heap[R]? = some (.cells (rowC ys) 31 (0, 0))) (hj : j < ys.length) (s : SR) :
    (((W.setCell ⟨R, j * 3, none⟩ (.bool s.f0)).setCell ⟨R, j * 3 + 1, none⟩ (.string s.f1)).setCell ⟨R, j * 3 + 2, none⟩ (.string s.f2)).heap[R]? = some (.cells (rowC (ys.set j s)) 31 (0, 0)) := by
  rw [← rowC_set ys j s hj]
  simp [World.setCell, Array.getElem?_modify, h]
set_option maxRecDepth 100000 in
set_option maxHeartbeats 1000000 in
theorem change_calls (R s m c : Nat) (ys : List SR) (g : Nat) (cb : Array Value) (fn : Nat → SR → SR × Int) (w : World) (hR : w.heap[R]? = some (.cells (rowC ys) 31 (0, 0))) (hlen : s + m ≤ ys.length) (hl : ys.length ≤ 100000) (eg : ∀ args w, (callFunc g args).run Tryz.prog w = .ok (.enter g args) w)
    (hf : ∀ (W : World) (j : Nat) (x : SR), Ex R w W → j < m → Calls Tryz.prog g (#[.int .i64 j, vS x] ++ cb) W fun e w' => e = .returned (.tuple #[vS (fn j x).1, .int .i64 (fn j x).2]) ∧ Below W.heap.size W w') :
    Calls Tryz.prog 29 #[.slice (some ⟨R, s * 3, none⟩) m c, .func (.func g) #[] cb] w fun e w' => e = .returned (.int .i64 (chg fn s m 0 ys).2) ∧ w'.heap[R]? = some (.cells (rowC (chg fn s m 0 ys).1) 31 (0, 0)) ∧ Ex R w w' := by
  have HF := Lib.hid hf
  have HR := Lib.hid hR
  have hlt : R < w.heap.size := (Array.getElem?_eq_some_iff.1 hR).1
  clear hf hR
  go_enter Tryz.func29, Tryz.ntmps29
  go_wp2
  go_loopw [11] (fun i wr => ∃ (k : Nat) (yk : List SR), k ≤ m ∧ i = .int .i64 k ∧ yk.length = ys.length ∧ Hid (chg fn s m 0 ys = chg fn s (m - k) k yk) ∧ Hid (wr.heap[R]? = some (.cells (rowC yk) 31 (0, 0))) ∧ Hid (Ex R w wr))
    (fun i _ => (m - intOf i).toNat)
  case atStart => exact ⟨0, ys, Nat.zero_le _, rfl, rfl, Lib.hid rfl, HR, Lib.hid (Ex.refl _ _)⟩
  case round =>
    obtain ⟨k, yk, hk, rfl, hyl, HC, HK, HE⟩ := hrel
    by_cases hkm : k < m
    · obtain ⟨x, hx⟩ : ∃ x, rdS yk (s + k) = x := ⟨_, rfl⟩
      obtain ⟨d0, d1, d2, _, _, _⟩ := row_cells HK.out (j := s + k) (by omega)
      rw [hx] at d0 d1 d2
      have hadd : (s + k) * 3 = s * 3 + k * 3 := Nat.add_mul _ _ _
      rw [hadd] at d0 d1 d2
      have HX := Lib.hid hx
      have HAD := Lib.hid hadd
      clear hx hadd
      have hRr : R < wr.heap.size := (Array.getElem?_eq_some_iff.1 HK.out).1
      obtain ⟨y, er, hy⟩ : ∃ y er, fn k x = (y, er) := ⟨_, _, rfl⟩
      have hfx := HF.out (wr.alloc (.cells #[.bool x.f0, .string x.f1, .string x.f2] 31)) k x (HE.out.trans (Ex.below ((Below.refl _ wr).alloc (Nat.le_refl _) _))) hkm
      rw [hy] at hfx
      dsimp only at hfx
      have hb0 : Below wr.heap.size wr (wr.alloc (.cells #[.bool x.f0, .string x.f1, .string x.f2] 31)) := (Below.refl _ wr).alloc (Nat.le_refl _) _
      have HB0 := Lib.hid hb0
      have HY := Lib.hid hy
      have HFX := Lib.hid hfx
      clear hfx hy hb0
      have hfin : ∀ w1 : World, Below wr.heap.size wr w1 → w1.heap[R]? = some (.cells (rowC yk) 31 (0, 0)) ∧ Ex R w w1 := fun w1 h1 => ⟨(h1.block _ hRr).trans HK.out, HE.out.trans (Ex.below h1)⟩
      have HFI := Lib.hid hfin
      clear hfin
      have hmk : m - k = (m - (k + 1)) + 1 := by omega
      have HMK := Lib.hid hmk
      clear hmk
      by_cases her : er = 0
      · subst her
        go_wp2_with fail
        refine HFX.out.mono ?_
        rintro e w1 ⟨rfl, hb1⟩
        have hbb := HB0.out.trans (hb1.mono HB0.out.size)
        obtain ⟨hk1, he1⟩ := HFI.out (w1.alloc (.cells #[.bool y.f0, .string y.f1, .string y.f2] 31)) (hbb.alloc hbb.size _)
        obtain ⟨e0, e1, e2, f0, f1, f2⟩ := row_cells hk1 (j := s + k) (by omega)
        rw [HAD.out] at e0 e1 e2 f0 f1 f2
        have HK1 := Lib.hid hk1
        have HE1 := Lib.hid he1
        clear hk1 he1 hb1 hbb
        go_wp2
        go_roundw
        case rel =>
          refine ⟨k + 1, yk.set (s + k) y, hkm, rfl, by rw [List.length_set]; exact hyl, Lib.hid ?_, Lib.hid ?_, Lib.hid ?_⟩
          · rw [HC.out, HMK.out, chg, HX.out, HY.out, if_pos rfl]
          · have := row_put HK1.out (j := s + k) (by omega) y
            rw [HAD.out] at this
            exact this
          · exact ((HE1.out.trans (Ex.setCell _ _ _)).trans (Ex.setCell _ _ _)).trans (Ex.setCell _ _ _)
        case measure => simp only [intOf]; omega
      · have hern : (er == 0) = false := beq_eq_false_iff_ne.2 her
        have hern2 : (er != 0) = true := bne_iff_ne.2 her
        have HER := Lib.hid her
        clear her
        go_wp2_with fail
        refine HFX.out.mono ?_
        rintro e w1 ⟨rfl, hb1⟩
        have hbb := HB0.out.trans (hb1.mono HB0.out.size)
        obtain ⟨hk1, he1⟩ := HFI.out (w1.alloc (.cells #[.bool y.f0, .string y.f1, .string y.f2] 31)) (hbb.alloc hbb.size _)
        have HK1 := Lib.hid hk1
        have HE1 := Lib.hid he1
        clear hk1 he1 hb1 hbb
        go_wp2
        go_ret
        have hcc : chg fn s m 0 ys = (yk, er) := by rw [HC.out, HMK.out, chg, HX.out, HY.out, if_neg HER.out]
        rw [hcc]
        exact ⟨rfl, HK1.out, HE1.out⟩
    · obtain rfl : k = m := by omega
      have hc := HC.out
      rw [Nat.sub_self, chg] at hc
      have HC2 := Lib.hid hc
      clear hc
      go_wp2
      go_ret
      rw [HC2.out]
      exact ⟨rfl, HK.out, HE.out⟩
end Go.Proofs.YtmkanjcehhbmlaaGreatDoor.Pr
end

section
namespace Go.Proofs.YtmkanjcehhbmlaaGreatDoor.Pr
set_option linter.unusedSimpArgs false
set_option linter.unusedVariables false
open Go.RowKit Go.Shelf Go.Proofs.YtmkanjcehhbmlaaGreatDoorW.PrintWords Go.Proofs.YtmkanjcehhbmlaaGreatDoorW.PrintLast Go.Proofs.YtmkanjcehhbmlaaGreatDoorW.PrintMore
/-- An operation's answer as a number and an error. -/
def ansS (r : Sp.RE) : SR × Int := (⟨r.1, r.2.1, r.2.2.1⟩, r.2.2.2)
def divS (x p : SR) : SR × Int := ansS (Sp.ratOp true (· / ·) x.f0 x.f1 x.f2 p.f0 p.f1 p.f2)
def mulS (x p : SR) : SR × Int := ansS (Sp.ratOp false (· * ·) x.f0 x.f1 x.f2 p.f0 p.f1 p.f2)
def subS (x p : SR) : SR × Int := ansS (Sp.ratOp false (· - ·) x.f0 x.f1 x.f2 p.f0 p.f1 p.f2)
theorem divS_calls (x p : SR) (w : World) (hT : Tab w) : Calls Tryz.prog 31 #[vS x, vS p] w fun e w' => e = .returned (.tuple #[vS (divS x p).1, .int .i64 (divS x p).2]) ∧ Below w.heap.size w w' := ratio_Div.calls _ _ _ _ _ _ _ _ _ _ w hT rfl
theorem mulS_calls (x p : SR) (w : World) (hT : Tab w) : Calls Tryz.prog 21 #[vS x, vS p] w fun e w' => e = .returned (.tuple #[vS (mulS x p).1, .int .i64 (mulS x p).2]) ∧ Below w.heap.size w w' := ratio_Mul.calls _ _ _ _ _ _ _ _ _ _ w hT rfl
theorem subS_calls (x p : SR) (w : World) (hT : Tab w) : Calls Tryz.prog 33 #[vS x, vS p] w fun e w' => e = .returned (.tuple #[vS (subS x p).1, .int .i64 (subS x p).2]) ∧ Below w.heap.size w w' := ratio_Sub.calls _ _ _ _ _ _ _ _ _ _ w hT rfl
/-- A box of one number. -/
def BoxS (W : World) (P : Nat) (s : SR) : Prop := W.heap[P]? = some (.cells #[.bool s.f0, .string s.f1, .string s.f2] 31 (0, 0))
theorem BoxS.below {W W' : World} {P : Nat} {s : SR} (h : BoxS W P s) (hb : Below W.heap.size W W') : BoxS W' P s := (hb.block _ (Array.getElem?_eq_some_iff.1 h).1).trans h
set_option maxRecDepth 100000 in
set_option maxHeartbeats 1000000 in
theorem sol3_calls (P : Nat) (p x : SR) (j : Int) (w : World) (hTab : Tab w) (hP : BoxS w P p) :
    Calls Tryz.prog 30 #[.int .i64 j, vS x, .pointer (some ⟨P, 0, none⟩)] w fun e w' => e = .returned (.tuple #[vS (divS x p).1, .int .i64 (divS x p).2]) ∧ Below w.heap.size w w' := by
  have hPl : P < w.heap.size := (Array.getElem?_eq_some_iff.1 hP).1
  have hbox : BoxS ((w.alloc (.cells #[.bool x.f0, .string x.f1, .string x.f2] 31)).alloc (.cells #[.bool false, .string ⟨#[]⟩, .string ⟨#[]⟩] 31)) P p := hP.below (((Below.refl _ w).alloc (Nat.le_refl _) _).alloc (by simp) _)
  obtain ⟨c0, c1, c2, _, _, _⟩ := box3 hbox
  clear hbox
  have hp : ∀ W : World, W = (w.alloc (.cells #[.bool x.f0, .string x.f1, .string x.f2] 31)).alloc (.cells #[.bool false, .string ⟨#[]⟩, .string ⟨#[]⟩] 31) →
      Calls Tryz.prog 31 #[vS x, vS p] W fun e w' => e = .returned (.tuple #[vS (divS x p).1, .int .i64 (divS x p).2]) ∧ w'.heap[w.heap.size + 1]? = some (.cells #[.bool false, .string ⟨#[]⟩, .string ⟨#[]⟩] 31 (0, 0)) ∧ Below w.heap.size w w' := fun W hW => by
    have hb : Below w.heap.size w W := by rw [hW]; exact ((Below.refl _ w).alloc (Nat.le_refl _) _).alloc (by simp) _
    have g : W.heap[w.heap.size + 1]? = some (.cells #[.bool false, .string ⟨#[]⟩, .string ⟨#[]⟩] 31 (0, 0)) := by
      rw [hW]; have := World.alloc_heap_new (w.alloc (.cells #[.bool x.f0, .string x.f1, .string x.f2] 31)) (.cells #[.bool false, .string ⟨#[]⟩, .string ⟨#[]⟩] 31); rwa [World.size_alloc] at this
    refine (divS_calls x p W (hTab.below hb)).mono ?_
    rintro e w' ⟨rfl, hb2⟩
    exact ⟨rfl, (hb2.block _ (Array.getElem?_eq_some_iff.1 g).1).trans g, hb.trans (hb2.mono hb.size)⟩
  have HP := Lib.hid hp
  clear hp hTab hP
  go_enter Tryz.func30, Tryz.ntmps30
  go_wp2_with (go_at_call 31; refine (HP.out _ rfl).mono ?_; rintro e w1 ⟨rfl, g2, hb⟩; obtain ⟨k0, k1, k2, f0, f1, f2⟩ := box3 g2; have G2 := Lib.hid g2; have HB := Lib.hid hb; clear g2 hb)
  refine bodyPost_ret (results_ct rfl _ _ (w.heap.size + 1) 31 _ (0, 0) _ rfl (set3 G2.out _ _ _) Tryz.underlying31 rfl (by kernel_rfl)) rfl ?_
  exact ⟨rfl, ((HB.out.setCell (p := ⟨w.heap.size + 1, 0, none⟩) (by show _ ≤ w.heap.size + 1; omega) _).setCell (p := ⟨w.heap.size + 1, 1, none⟩) (by show _ ≤ w.heap.size + 1; omega) _).setCell (p := ⟨w.heap.size + 1, 2, none⟩) (by show _ ≤ w.heap.size + 1; omega) _⟩
set_option maxRecDepth 100000 in
set_option maxHeartbeats 1000000 in
theorem sol1_calls (P n : Nat) (A : Option Addr) (c : Nat) (xs : List SR) (w : World) (hTab : Tab w) (hP : w.heap[P]? = some (.cells #[.int .i64 n] 3 (0, 0))) (hx : Kd.C kR w A xs.length xs) (hl : xs.length ≤ 100000) :
    Calls Tryz.prog 25 #[.slice A xs.length c, .pointer (some ⟨P, 0, none⟩)] w fun e w' => e = .returned (.bool (!decide (xs.length = n) || !xs.all vldS)) ∧ Below w.heap.size w w' := by
  have hPl : P < w.heap.size := (Array.getElem?_eq_some_iff.1 hP).1
  have c0 := (cell_of_box _ _ _ _ hP).1
  have HV := Lib.hid (valid_calls A c xs w hTab hx hl)
  clear hP hx hTab
  by_cases h : xs.length = n
  · have h1 : ((xs.length : Int) != (n : Int)) = false := by rw [h]; simp
    have h2 : (!decide (xs.length = n) || !xs.all vldS) = !xs.all vldS := by rw [decide_eq_true h]; rfl
    rw [h2]
    have HH := Lib.hid h
    clear h h2
    go_enter Tryz.func25, Tryz.ntmps25
    go_wp2_with (go_at_call 23; with_reducible refine HV.out.mono ?_; rintro e w1 ⟨rfl, hb⟩)
    go_ret
    exact ⟨rfl, hb⟩
  · have h1 : ((xs.length : Int) != (n : Int)) = true := by rw [bne_iff_ne]; omega
    have h2 : (!decide (xs.length = n) || !xs.all vldS) = true := by rw [decide_eq_false h]; rfl
    rw [h2]
    have HH := Lib.hid h
    clear h h2
    go_enter Tryz.func25, Tryz.ntmps25
    go_wp2
    go_ret
    exact ⟨rfl, Below.refl _ _⟩
end Go.Proofs.YtmkanjcehhbmlaaGreatDoor.Pr
end

section
namespace Go.Proofs.YtmkanjcehhbmlaaGreatDoor.Pr
set_option linter.unusedSimpArgs false
set_option linter.unusedVariables false
open Go.RowKit Go.Shelf Go.Proofs.YtmkanjcehhbmlaaGreatDoorW.PrintWords Go.Proofs.YtmkanjcehhbmlaaGreatDoorW.PrintLast Go.Proofs.YtmkanjcehhbmlaaGreatDoorW.PrintMore
def isZ (x : SR) : Bool := !x.f0 && (x.f1.toList == [48] && (x.f2.toList == [49]))
set_option maxRecDepth 100000 in
set_option maxHeartbeats 1000000 in
theorem sol2_neg (P k R n c : Nat) (ys : List SR) (x : SR) (w : World) (hP : w.heap[P]? = some (.cells #[.int .i64 k] 3 (0, 0))) (hR : w.heap[R]? = some (.cells (rowC ys) 31 (0, 0))) (hk : k < ys.length) (hn : ys.length = n) (hl : n ≤ 100000) (hx : rdS ys k = x) (z0 : x.f0 = true) :
    Calls Tryz.prog 27 #[.slice (some ⟨R, 0, none⟩) n c, .pointer (some ⟨P, 0, none⟩)] w fun e w' => e = .returned (.bool true) ∧ Below w.heap.size w w' := by
  have hPl : P < w.heap.size := (Array.getElem?_eq_some_iff.1 hP).1
  have hRl : R < w.heap.size := (Array.getElem?_eq_some_iff.1 hR).1
  obtain ⟨f0, hf0⟩ : ∃ f0, x.f0 = f0 := ⟨_, rfl⟩
  obtain ⟨f1, hf1⟩ : ∃ f1, x.f1 = f1 := ⟨_, rfl⟩
  obtain ⟨f2, hf2⟩ : ∃ f2, x.f2 = f2 := ⟨_, rfl⟩

  have hkn : k < n := by omega
  have hS : ∀ W, Below w.heap.size w W → (W.cell? ⟨P, 0, none⟩ = some (.int .i64 k) ∧ (W.cell? ⟨R, k * 3, none⟩ = some (.bool f0) ∧ W.cell? ⟨R, k * 3 + 1, none⟩ = some (.string f1) ∧ W.cell? ⟨R, k * 3 + 2, none⟩ = some (.string f2))) ∧ Below w.heap.size w W := fun W hW => by
    obtain ⟨d0, d1, d2, _⟩ := row_cells ((hW.block _ hRl).trans hR) hk
    rw [hx] at d0 d1 d2
    rw [hf0] at d0
    rw [hf1] at d1
    rw [hf2] at d2
    exact ⟨⟨(cell_of_box _ _ _ _ ((hW.block _ hPl).trans hP)).1, d0, d1, d2⟩, hW⟩
  have HS := Lib.hid hS
  clear hS hP hR hx hn
  rw [hf0] at z0
  subst z0
  go_enter Tryz.func27, Tryz.ntmps27
  go_wp2_with fail
  go_region_held3 (fun W => (W.cell? ⟨P, 0, none⟩ = some (.int .i64 k) ∧ (W.cell? ⟨R, k * 3, none⟩ = some (.bool true) ∧ W.cell? ⟨R, k * 3 + 1, none⟩ = some (.string f1) ∧ W.cell? ⟨R, k * 3 + 2, none⟩ = some (.string f2))) ∧ Below w.heap.size w W)
    (first
      | exact HS.out _ (Below.refl _ w).drew
      | exact HS.out _ hb1)
    (first
      | (go_at_call 28; with_reducible refine (zero_calls _).mono ?_; rintro e w1 ⟨rfl, hb0⟩; have hb1 : Below w.heap.size w w1 := ((Below.refl _ w).drew).trans (hb0.mono (Nat.le_refl _))))
  go_wp2
  go_ret
  exact ⟨rfl, hb1⟩
set_option maxRecDepth 100000 in
set_option maxHeartbeats 1000000 in
theorem sol2_num (P k R n c : Nat) (ys : List SR) (x : SR) (w : World) (hP : w.heap[P]? = some (.cells #[.int .i64 k] 3 (0, 0))) (hR : w.heap[R]? = some (.cells (rowC ys) 31 (0, 0))) (hk : k < ys.length) (hn : ys.length = n) (hl : n ≤ 100000) (hx : rdS ys k = x) (z0 : x.f0 = false) (z1 : ¬ x.f1.toList = [48]) :
    Calls Tryz.prog 27 #[.slice (some ⟨R, 0, none⟩) n c, .pointer (some ⟨P, 0, none⟩)] w fun e w' => e = .returned (.bool true) ∧ Below w.heap.size w w' := by
  have hPl : P < w.heap.size := (Array.getElem?_eq_some_iff.1 hP).1
  have hRl : R < w.heap.size := (Array.getElem?_eq_some_iff.1 hR).1
  obtain ⟨f0, hf0⟩ : ∃ f0, x.f0 = f0 := ⟨_, rfl⟩
  obtain ⟨f1, hf1⟩ : ∃ f1, x.f1 = f1 := ⟨_, rfl⟩
  obtain ⟨f2, hf2⟩ : ∃ f2, x.f2 = f2 := ⟨_, rfl⟩

  have hkn : k < n := by omega
  have hS : ∀ W, Below w.heap.size w W → (W.cell? ⟨P, 0, none⟩ = some (.int .i64 k) ∧ (W.cell? ⟨R, k * 3, none⟩ = some (.bool f0) ∧ W.cell? ⟨R, k * 3 + 1, none⟩ = some (.string f1) ∧ W.cell? ⟨R, k * 3 + 2, none⟩ = some (.string f2))) ∧ Below w.heap.size w W := fun W hW => by
    obtain ⟨d0, d1, d2, _⟩ := row_cells ((hW.block _ hRl).trans hR) hk
    rw [hx] at d0 d1 d2
    rw [hf0] at d0
    rw [hf1] at d1
    rw [hf2] at d2
    exact ⟨⟨(cell_of_box _ _ _ _ ((hW.block _ hPl).trans hP)).1, d0, d1, d2⟩, hW⟩
  have HS := Lib.hid hS
  clear hS hP hR hx hn
  rw [hf0] at z0
  subst z0
  rw [hf1] at z1
  have z1x : (f1.toList == [48]) = false := beq_eq_false_iff_ne.2 z1
  go_enter Tryz.func27, Tryz.ntmps27
  go_wp2_with fail
  go_region_held3 (fun W => (W.cell? ⟨P, 0, none⟩ = some (.int .i64 k) ∧ (W.cell? ⟨R, k * 3, none⟩ = some (.bool false) ∧ W.cell? ⟨R, k * 3 + 1, none⟩ = some (.string f1) ∧ W.cell? ⟨R, k * 3 + 2, none⟩ = some (.string f2))) ∧ Below w.heap.size w W)
    (first
      | exact HS.out _ (Below.refl _ w).drew
      | exact HS.out _ hb1)
    (first
      | (go_at_call 28; with_reducible refine (zero_calls _).mono ?_; rintro e w1 ⟨rfl, hb0⟩; have hb1 : Below w.heap.size w w1 := ((Below.refl _ w).drew).trans (hb0.mono (Nat.le_refl _))))
  go_wp2
  go_ret
  exact ⟨rfl, hb1⟩
set_option maxRecDepth 100000 in
set_option maxHeartbeats 1000000 in
theorem sol2_den (P k R n c : Nat) (ys : List SR) (x : SR) (w : World) (hP : w.heap[P]? = some (.cells #[.int .i64 k] 3 (0, 0))) (hR : w.heap[R]? = some (.cells (rowC ys) 31 (0, 0))) (hk : k < ys.length) (hn : ys.length = n) (hl : n ≤ 100000) (hx : rdS ys k = x) (z0 : x.f0 = false) (z1 : x.f1.toList = [48]) (z2 : ¬ x.f2.toList = [49]) :
    Calls Tryz.prog 27 #[.slice (some ⟨R, 0, none⟩) n c, .pointer (some ⟨P, 0, none⟩)] w fun e w' => e = .returned (.bool true) ∧ Below w.heap.size w w' := by
  have hPl : P < w.heap.size := (Array.getElem?_eq_some_iff.1 hP).1
  have hRl : R < w.heap.size := (Array.getElem?_eq_some_iff.1 hR).1
  obtain ⟨f0, hf0⟩ : ∃ f0, x.f0 = f0 := ⟨_, rfl⟩
  obtain ⟨f1, hf1⟩ : ∃ f1, x.f1 = f1 := ⟨_, rfl⟩
  obtain ⟨f2, hf2⟩ : ∃ f2, x.f2 = f2 := ⟨_, rfl⟩

  have hkn : k < n := by omega
  have hS : ∀ W, Below w.heap.size w W → (W.cell? ⟨P, 0, none⟩ = some (.int .i64 k) ∧ (W.cell? ⟨R, k * 3, none⟩ = some (.bool f0) ∧ W.cell? ⟨R, k * 3 + 1, none⟩ = some (.string f1) ∧ W.cell? ⟨R, k * 3 + 2, none⟩ = some (.string f2))) ∧ Below w.heap.size w W := fun W hW => by
    obtain ⟨d0, d1, d2, _⟩ := row_cells ((hW.block _ hRl).trans hR) hk
    rw [hx] at d0 d1 d2
    rw [hf0] at d0
    rw [hf1] at d1
    rw [hf2] at d2
    exact ⟨⟨(cell_of_box _ _ _ _ ((hW.block _ hPl).trans hP)).1, d0, d1, d2⟩, hW⟩
  have HS := Lib.hid hS
  clear hS hP hR hx hn
  rw [hf0] at z0
  subst z0
  rw [hf1] at z1
  have z1x : (f1.toList == [48]) = true := beq_iff_eq.2 z1
  rw [hf2] at z2
  have z2x : (f2.toList == [49]) = false := beq_eq_false_iff_ne.2 z2
  go_enter Tryz.func27, Tryz.ntmps27
  go_wp2_with fail
  go_region_held3 (fun W => (W.cell? ⟨P, 0, none⟩ = some (.int .i64 k) ∧ (W.cell? ⟨R, k * 3, none⟩ = some (.bool false) ∧ W.cell? ⟨R, k * 3 + 1, none⟩ = some (.string f1) ∧ W.cell? ⟨R, k * 3 + 2, none⟩ = some (.string f2))) ∧ Below w.heap.size w W)
    (first
      | exact HS.out _ (Below.refl _ w).drew
      | exact HS.out _ hb1)
    (first
      | (go_at_call 28; with_reducible refine (zero_calls _).mono ?_; rintro e w1 ⟨rfl, hb0⟩; have hb1 : Below w.heap.size w w1 := ((Below.refl _ w).drew).trans (hb0.mono (Nat.le_refl _))))
  go_wp2
  go_ret
  exact ⟨rfl, hb1⟩
set_option maxRecDepth 100000 in
set_option maxHeartbeats 1000000 in
theorem sol2_zero (P k R n c : Nat) (ys : List SR) (x : SR) (w : World) (hP : w.heap[P]? = some (.cells #[.int .i64 k] 3 (0, 0))) (hR : w.heap[R]? = some (.cells (rowC ys) 31 (0, 0))) (hk : k < ys.length) (hn : ys.length = n) (hl : n ≤ 100000) (hx : rdS ys k = x) (z0 : x.f0 = false) (z1 : x.f1.toList = [48]) (z2 : x.f2.toList = [49]) :
    Calls Tryz.prog 27 #[.slice (some ⟨R, 0, none⟩) n c, .pointer (some ⟨P, 0, none⟩)] w fun e w' => e = .returned (.bool false) ∧ Below w.heap.size w w' := by
  have hPl : P < w.heap.size := (Array.getElem?_eq_some_iff.1 hP).1
  have hRl : R < w.heap.size := (Array.getElem?_eq_some_iff.1 hR).1
  obtain ⟨f0, hf0⟩ : ∃ f0, x.f0 = f0 := ⟨_, rfl⟩
  obtain ⟨f1, hf1⟩ : ∃ f1, x.f1 = f1 := ⟨_, rfl⟩
  obtain ⟨f2, hf2⟩ : ∃ f2, x.f2 = f2 := ⟨_, rfl⟩

  have hkn : k < n := by omega
  have hS : ∀ W, Below w.heap.size w W → (W.cell? ⟨P, 0, none⟩ = some (.int .i64 k) ∧ (W.cell? ⟨R, k * 3, none⟩ = some (.bool f0) ∧ W.cell? ⟨R, k * 3 + 1, none⟩ = some (.string f1) ∧ W.cell? ⟨R, k * 3 + 2, none⟩ = some (.string f2))) ∧ Below w.heap.size w W := fun W hW => by
    obtain ⟨d0, d1, d2, _⟩ := row_cells ((hW.block _ hRl).trans hR) hk
    rw [hx] at d0 d1 d2
    rw [hf0] at d0
    rw [hf1] at d1
    rw [hf2] at d2
    exact ⟨⟨(cell_of_box _ _ _ _ ((hW.block _ hPl).trans hP)).1, d0, d1, d2⟩, hW⟩
  have HS := Lib.hid hS
  clear hS hP hR hx hn
  rw [hf0] at z0
  subst z0
  rw [hf1] at z1
  have z1x : (f1.toList == [48]) = true := beq_iff_eq.2 z1
  rw [hf2] at z2
  have z2x : (f2.toList == [49]) = true := beq_iff_eq.2 z2
  go_enter Tryz.func27, Tryz.ntmps27
  go_wp2_with fail
  go_region_held3 (fun W => (W.cell? ⟨P, 0, none⟩ = some (.int .i64 k) ∧ (W.cell? ⟨R, k * 3, none⟩ = some (.bool false) ∧ W.cell? ⟨R, k * 3 + 1, none⟩ = some (.string f1) ∧ W.cell? ⟨R, k * 3 + 2, none⟩ = some (.string f2))) ∧ Below w.heap.size w W)
    (first
      | exact HS.out _ (Below.refl _ w).drew
      | exact HS.out _ hb1)
    (first
      | (go_at_call 28; with_reducible refine (zero_calls _).mono ?_; rintro e w1 ⟨rfl, hb0⟩; have hb1 : Below w.heap.size w w1 := ((Below.refl _ w).drew).trans (hb0.mono (Nat.le_refl _))))
  go_wp2
  go_ret
  exact ⟨rfl, hb1⟩
end Go.Proofs.YtmkanjcehhbmlaaGreatDoor.Pr
end

section
namespace Go.Proofs.YtmkanjcehhbmlaaGreatDoor.Pr
set_option linter.unusedSimpArgs false
set_option linter.unusedVariables false
open Go.RowKit Go.Shelf Go.Proofs.YtmkanjcehhbmlaaGreatDoorW.PrintWords Go.Proofs.YtmkanjcehhbmlaaGreatDoorW.PrintLast Go.Proofs.YtmkanjcehhbmlaaGreatDoorW.PrintMore
def elimS (f : SR) (pv : List SR) (s : Nat) (j : Nat) (x : SR) : SR × Int := if (mulS f (rdS pv (s + j))).2 = 0 then subS x (mulS f (rdS pv (s + j))).1 else mulS f (rdS pv (s + j))
theorem heap_lt' {W : World} {k : Nat} {o : Obj} (h : W.heap[k]? = some o) : k < W.heap.size := (Array.getElem?_eq_some_iff.1 h).1
theorem two (w : World) (o0 o1 : Obj) (W : World) (hW : W = (w.alloc o0).alloc o1) :
    W.heap[w.heap.size]? = some o0 ∧ W.heap[w.heap.size + 1]? = some o1 ∧ Below w.heap.size w W := by
  subst hW
  refine ⟨?_, ?_, (((Below.refl _ w).alloc (Nat.le_refl _) _).alloc (by simp) _)⟩
  all_goals simp only [alloc_heap, World.size_alloc]
  all_goals (repeat' split)
  all_goals first | rfl | (exfalso; omega) | (exfalso; exact ‹¬True› trivial)
theorem below_set3 {B p : Nat} {a W : World} (h : Below B a W) (hp : B ≤ p) (v0 v1 v2 : Value) : Below B a (((W.setCell ⟨p, 0, none⟩ v0).setCell ⟨p, 1, none⟩ v1).setCell ⟨p, 2, none⟩ v2) :=
  ((h.setCell (p := ⟨p, 0, none⟩) hp _).setCell (p := ⟨p, 1, none⟩) hp _).setCell (p := ⟨p, 2, none⟩) hp _
set_option maxRecDepth 100000 in
set_option maxHeartbeats 1000000 in
theorem sol4_calls (F V R s m c : Nat) (f x : SR) (pv : List SR) (j : Nat) (w : World) (hTab : Tab w) (hF : BoxS w F f) (hV : w.heap[V]? = some (.cells #[.slice (some ⟨R, s * 3, none⟩) m c] 23 (0, 0))) (hR : w.heap[R]? = some (.cells (rowC pv) 31 (0, 0))) (hj : j < m) (hs : s + m ≤ pv.length) (hl : pv.length ≤ 100000) :
    Calls Tryz.prog 32 #[.int .i64 j, vS x, .pointer (some ⟨F, 0, none⟩), .pointer (some ⟨V, 0, none⟩)] w fun e w' => e = .returned (.tuple #[vS (elimS f pv s j x).1, .int .i64 (elimS f pv s j x).2]) ∧ Below w.heap.size w w' := by
  unfold elimS
  obtain ⟨y, hy⟩ : ∃ y, rdS pv (s + j) = y := ⟨_, rfl⟩
  rw [hy]
  obtain ⟨q, er, hq⟩ : ∃ q er, mulS f y = (q, er) := ⟨_, _, rfl⟩
  have HM := Lib.hid (fun w hT => mulS_calls f y w hT)
  rw [hq] at HM ⊢
  dsimp only at HM ⊢
  obtain ⟨z, ez, hz⟩ : ∃ z ez, (if er = 0 then subS x q else (q, er)) = (z, ez) := ⟨_, _, rfl⟩
  rw [hz]
  dsimp only
  have HZ := Lib.hid hz
  clear hz
  have HT := Lib.hid hTab
  have HF := Lib.hid hF
  have HV := Lib.hid hV
  have HR := Lib.hid hR
  have HY := Lib.hid hy
  clear hTab hF hV hR hy hq
  go_enter Tryz.func32, Tryz.ntmps32
  go_upto_region 1 with fail
  obtain ⟨w1, hw1⟩ : ∃ w1, (w.alloc (.cells #[.bool x.f0, .string x.f1, .string x.f2] 31)).alloc (.cells #[.bool false, .string ⟨#[]⟩, .string ⟨#[]⟩] 31) = w1 := ⟨_, rfl⟩
  obtain ⟨g0, g1, hb1⟩ := two _ _ _ _ hw1.symm
  rw [hw1]
  have hS : ∀ W, Below w.heap.size w W → (((W.cell? ⟨F, 0, none⟩ = some (.bool f.f0) ∧ W.cell? ⟨F, 1, none⟩ = some (.string f.f1) ∧ W.cell? ⟨F, 2, none⟩ = some (.string f.f2)) ∧ W.cell? ⟨V, 0, none⟩ = some (.slice (some ⟨R, s * 3, none⟩) m c)) ∧ (W.cell? ⟨R, s * 3 + j * 3, none⟩ = some (.bool y.f0) ∧ W.cell? ⟨R, s * 3 + j * 3 + 1, none⟩ = some (.string y.f1) ∧ W.cell? ⟨R, s * 3 + j * 3 + 2, none⟩ = some (.string y.f2))) := fun W hW => by
    obtain ⟨a0, a1, a2, _⟩ := box3 (HF.out.below hW)
    obtain ⟨d0, d1, d2, _⟩ := row_cells ((hW.block _ (Array.getElem?_eq_some_iff.1 HR.out).1).trans HR.out) (j := s + j) (by omega)
    rw [HY.out, Nat.add_mul] at d0 d1 d2
    exact ⟨⟨⟨a0, a1, a2⟩, (cell_of_box _ _ _ _ ((hW.block _ (Array.getElem?_eq_some_iff.1 HV.out).1).trans HV.out)).1⟩, d0, d1, d2⟩
  have HS := Lib.hid (fun W (hW : Below w1.heap.size w1 W) => hS W (hb1.trans (hW.mono hb1.size)))
  have HT1 := Lib.hid (fun W (hW : Below w1.heap.size w1 W) => HT.out.below (hb1.trans (hW.mono hb1.size)))
  have HB1 := Lib.hid hb1
  have HG0 := Lib.hid g0
  have HG1 := Lib.hid g1
  have HW1 : Hid (w.heap.size + 1 < w1.heap.size) := Lib.hid (heap_lt' g1)
  have HA : Hid (Below w1.heap.size w1 (w1.alloc (.cells #[.bool false, .string ⟨#[]⟩, .string ⟨#[]⟩] 31)).drew) := Lib.hid (((Below.refl _ w1).alloc (Nat.le_refl _) _).drew)
  have HAG : Hid ((w1.alloc (.cells #[.bool false, .string ⟨#[]⟩, .string ⟨#[]⟩] 31)).drew.heap[w1.heap.size]? = some (.cells #[.bool false, .string ⟨#[]⟩, .string ⟨#[]⟩] 31 (0, 0))) := Lib.hid (World.alloc_heap_new w1 _)
  clear hS hb1 hw1 g0 g1
  go_cut [8, 9] (fun s8 s9 wx => ∃ p, w1.heap.size ≤ p ∧ s8 = .pointer (some ⟨p, 0, none⟩) ∧ s9 = .int .i64 er ∧ Hid (BoxS wx p q) ∧ Hid (Below w1.heap.size w1 wx))
  case first =>
    go_region_held3 (fun W => (((W.cell? ⟨F, 0, none⟩ = some (.bool f.f0) ∧ W.cell? ⟨F, 1, none⟩ = some (.string f.f1) ∧ W.cell? ⟨F, 2, none⟩ = some (.string f.f2)) ∧ W.cell? ⟨V, 0, none⟩ = some (.slice (some ⟨R, s * 3, none⟩) m c)) ∧ (W.cell? ⟨R, s * 3 + j * 3, none⟩ = some (.bool y.f0) ∧ W.cell? ⟨R, s * 3 + j * 3 + 1, none⟩ = some (.string y.f1) ∧ W.cell? ⟨R, s * 3 + j * 3 + 2, none⟩ = some (.string y.f2))) ∧ Below w1.heap.size w1 W)
      (first
        | exact ⟨HS.out _ (Below.refl _ w1).drew, (Below.refl _ w1).drew⟩
        | exact ⟨HS.out _ HA.out, HA.out⟩
        | exact ⟨HS.out _ ((Below.refl _ w1).drew.alloc (Nat.le_refl _) _), ((Below.refl _ w1).drew.alloc (Nat.le_refl _) _)⟩
        | exact ⟨HS.out _ HB2.out, HB2.out⟩
        | exact ⟨HS.out _ (HB2.out.alloc HB2.out.size _), HB2.out.alloc HB2.out.size _⟩
        | exact ⟨HS.out _ (below_set3 HB2.out (Nat.le_refl _) _ _ _), below_set3 HB2.out (Nat.le_refl _) _ _ _⟩
        | exact ⟨HS.out _ (below_set3 (HB2.out.alloc HB2.out.size _) HB2.out.size _ _ _), below_set3 (HB2.out.alloc HB2.out.size _) HB2.out.size _ _ _⟩)
      (first
        | (go_at_call 21; with_reducible refine (HM.out _ (HT1.out _ (Below.refl _ w1).drew)).mono ?_; rintro e w2 ⟨rfl, hb3⟩; have HB2 := Lib.hid ((Below.refl _ w1).drew.trans hb3); clear hb3)
        | (go_at_call 21; with_reducible refine (HM.out _ (HT1.out _ HA.out)).mono ?_; rintro e w2 ⟨rfl, hb3⟩; have HB2 := Lib.hid (HA.out.trans (hb3.mono HA.out.size)); have G := Lib.hid ((hb3.block w1.heap.size (heap_lt' HAG.out)).trans HAG.out); clear hb3; obtain ⟨k0, k1, k2, f0, f1, f2⟩ := box3 G.out))
    · go_wp2_with fail
      go_meet
      exact ⟨w2.heap.size, HB2.out.size, rfl, rfl, Lib.hid (World.alloc_heap_new w2 _), Lib.hid (HB2.out.alloc HB2.out.size _)⟩
    · go_wp2_with fail
      go_meet
      exact ⟨w1.heap.size, Nat.le_refl _, rfl, rfl, Lib.hid (set3 G.out _ _ _), Lib.hid (below_set3 HB2.out (Nat.le_refl _) _ _ _)⟩
  case rest =>
  obtain ⟨p, hp, rfl, rfl, HQ, HB⟩ := hcut
  have HPL := Lib.hid hp
  have HBC := Lib.hid (HB1.out.trans (HB.out.mono HB1.out.size))
  by_cases her : er = 0
  · have hz := HZ.out
    rw [if_pos her] at hz
    subst her
    obtain ⟨q0, q1, q2, _⟩ := box3 HQ.out
    obtain ⟨x0, x1, x2, _⟩ := box3 (W := wc) (B := w.heap.size) ((HB.out.block _ (heap_lt' HG0.out)).trans HG0.out)
    have HSB := Lib.hid (fun w hT => subS_calls x q w hT)
    rw [hz] at HSB
    dsimp only at HSB
    have HTC := Lib.hid (HT.out.below HBC.out)
    have HG1C := Lib.hid ((HB.out.block _ (heap_lt' HG1.out)).trans HG1.out)
    clear hz hp HM HT HF HV HR HY HS HT1 HA HAG HG0 HQ
    go_wp2_with (go_at_call 33; with_reducible refine (HSB.out _ HTC.out).mono ?_; rintro e w3 ⟨rfl, hb4⟩; have G4 := Lib.hid ((hb4.block _ (heap_lt' HG1C.out)).trans HG1C.out); have HB4 := Lib.hid (HBC.out.trans (hb4.mono HBC.out.size)); obtain ⟨k0, k1, k2, f0, f1, f2⟩ := box3 G4.out; clear hb4)
    refine bodyPost_ret (results_ct rfl _ _ (w.heap.size + 1) 31 _ (0, 0) _ rfl (set3 G4.out _ _ _) Tryz.underlying31 rfl (by kernel_rfl)) rfl ?_
    exact ⟨rfl, below_set3 HB4.out (by omega) _ _ _⟩
  · have hz := HZ.out
    rw [if_neg her, Prod.mk.injEq] at hz
    obtain ⟨rfl, rfl⟩ := hz
    have hern : (er != 0) = true := bne_iff_ne.2 her
    obtain ⟨q0, q1, q2, _⟩ := box3 HQ.out
    have HG1C := Lib.hid ((HB.out.block _ (heap_lt' HG1.out)).trans HG1.out)
    obtain ⟨k0, k1, k2, f0, f1, f2⟩ := box3 HG1C.out
    clear hp HM HT HF HV HR HY HS HT1 HA HAG HG0 HQ her
    go_wp2_with fail
    refine bodyPost_ret (results_ct rfl _ _ (w.heap.size + 1) 31 _ (0, 0) _ rfl (set3 HG1C.out _ _ _) Tryz.underlying31 rfl (by kernel_rfl)) rfl ?_
    exact ⟨rfl, below_set3 HBC.out (by omega) _ _ _⟩
end Go.Proofs.YtmkanjcehhbmlaaGreatDoor.Pr
end
