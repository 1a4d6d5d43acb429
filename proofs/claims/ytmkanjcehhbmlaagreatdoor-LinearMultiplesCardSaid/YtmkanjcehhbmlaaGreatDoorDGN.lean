/- The contract of div's closure: m times (k + 1) exceeds the rest. The contract of sort.Search, over a function that may write what it makes. append(number{limb}, rest...) inside a round. -/
import Derived.Deep.RegionWith
import Derived.Deep.RegionHeld3
import Derived.Test.YtmkanjcehhbmlaaGreatDoorProg
import Derived.WalkKit
import Derived.Lib.Hide
import Derived.Deep.LoopGhost
import Derived.Sort.Walk0
import Derived.OwnWalkIn
import Derived.Laws.OwnMore
import Derived.Test.YtmkanjcehhbmlaaGreatDoorDBuild
import Derived.Test.YtmkanjcehhbmlaaGreatDoorDFmt
import Derived.Test.YtmkanjcehhbmlaaGreatDoorDGN2
import Derived.Test.YtmkanjcehhbmlaaGreatDoorDGW
import Derived.Test.YtmkanjcehhbmlaaGreatDoorDGW2
import Derived.Test.YtmkanjcehhbmlaaGreatDoorDNum
import Derived.Test.YtmkanjcehhbmlaaGreatDoorDNumAdd
import Derived.Test.YtmkanjcehhbmlaaGreatDoorDNumCmp
import Derived.Test.YtmkanjcehhbmlaaGreatDoorDNumMul
import Derived.Test.YtmkanjcehhbmlaaGreatDoorDNumOps
import Derived.Test.YtmkanjcehhbmlaaGreatDoorDNumParse
import Derived.Test.YtmkanjcehhbmlaaGreatDoorDNumText
import Derived.Test.YtmkanjcehhbmlaaGreatDoorDNumVal
import Derived.Test.YtmkanjcehhbmlaaGreatDoorDPrA4
import Derived.Test.YtmkanjcehhbmlaaGreatDoorDPrA5
import Derived.Test.YtmkanjcehhbmlaaGreatDoorDShelf
import Derived.Test.YtmkanjcehhbmlaaGreatDoorDSpec
import Derived.Test.YtmkanjcehhbmlaaGreatDoorDTab
import Derived.Test.YtmkanjcehhbmlaaGreatDoorDWLast
set_option linter.all false
section
namespace Go.Proofs.YtmkanjcehhbmlaaGreatDoor.Pr
set_option linter.unusedSimpArgs false
set_option linter.unusedVariables false
open Go.RowKit Go.Shelf Go.Proofs.YtmkanjcehhbmlaaGreatDoorW.PrintWords Go.Proofs.YtmkanjcehhbmlaaGreatDoorW.PrintLast Go.Proofs.YtmkanjcehhbmlaaGreatDoorW.PrintMore
set_option maxRecDepth 100000 in
set_option maxHeartbeats 800000 in
theorem div1_calls (P3 P7 : Nat) (A B : Option Addr) (n c m d a r k : Nat) (w : World) (h3 : w.heap[P3]? = some (.cells #[.slice A n c] 63 (0, 0))) (h7 : w.heap[P7]? = some (.cells #[.slice B m d] 63 (0, 0))) (ha : NU w A n c a) (hb : NU w B m d r) (hk : k < 999999999) (hr : n ≤ 1000) (hr2 : m ≤ 2000) :
    Calls Tryz.prog 117 #[.int .i64 k, .pointer (some ⟨P3, 0, none⟩), .pointer (some ⟨P7, 0, none⟩)] w fun e w' => e = .returned (.bool (decide (r < a * (k + 1)))) ∧ Below w.heap.size w w' := by
  have c3 := (cell_of_box _ _ _ _ h3).1
  have c7 := (cell_of_box _ _ _ _ h7).1
  have l3 := (Array.getElem?_eq_some_iff.1 h3).1
  have l7 := (Array.getElem?_eq_some_iff.1 h7).1
  have HONE := Lib.hid (fun w => one_num w (k + 1) (by omega) (by omega))
  have hq : (limbs (a * (k + 1))).length ≤ 1001 := mul_len (by rw [← ha.1]; exact hr) (by omega)
  have HA := Lib.hid ha
  have HB := Lib.hid hb
  clear h3 h7 ha hb
  go_enter Tryz.func117, Tryz.ntmps117
  have HE := Lib.hid (show IntKind.u64.wrap (IntKind.i64.wrap ((k : Int) + 1)) = ((k + 1 : Nat) : Int) by rw [IntKind.wrap_u64, IntKind.wrap_i64]; omega)
  have hS : ∀ W, Below w.heap.size w W → W.cell? ⟨P3, 0, none⟩ = some (.slice A n c) ∧ W.cell? ⟨P7, 0, none⟩ = some (.slice B m d) := fun W hW => ⟨(hW.cell (p := ⟨P3, 0, none⟩) l3).trans c3, (hW.cell (p := ⟨P7, 0, none⟩) l7).trans c7⟩
  have HS := Lib.hid hS
  clear hS
  go_wp2_with fail
  go_region_held3 (fun w' => (w'.cell? ⟨P3, 0, none⟩ = some (.slice A n c) ∧ w'.cell? ⟨P7, 0, none⟩ = some (.slice B m d)) ∧ Below w.heap.size w w')
    (first
      | exact ⟨HS.out _ (Below.refl _ w).drew, (Below.refl _ w).drew⟩
      | exact ⟨HS.out _ ((Below.refl _ w).alloc (Nat.le_refl _) _).drew, ((Below.refl _ w).alloc (Nat.le_refl _) _).drew⟩
      | exact ⟨HS.out _ hB1, hB1⟩
      | exact ⟨HS.out _ hB2, hB2⟩)
    (first
      | (go_at_call 118; rw [HE.out]; with_reducible refine (mul_num A _ n c 1 1 a (k + 1) _ ?na ?nb ?nc ?nd).mono ?_; (case na => exact HA.out.below ((Below.refl _ w).alloc (Nat.le_refl _) _).drew); (case nb => exact (HONE.out w).below (Below.drew (Below.refl _ _))); (case nc => omega); (case nd => omega); rintro e w1 ⟨C, q, d', rfl, hN, hb1⟩; have hB1 : Below w.heap.size w w1 := (((Below.refl _ w).alloc (Nat.le_refl _) _).drew).trans (hb1.mono (by simp)))
      | (go_at_call 90; with_reducible refine (cmp_num _ _ _ _ _ _ _ _ _ hN.nu (HB.out.below hB1) ?nc ?nd).mono ?_; (case nc => rw [hN.len]; omega); (case nd => omega); rintro e w2 ⟨rfl, hb2⟩; have hB2 : Below w.heap.size w w2 := hB1.trans (hb2.mono hB1.size)))
  go_wp2
  go_ret
  refine ⟨?_, hB2⟩
  rw [← cmp3_pos, show ((a * (k + 1) : Nat) : Int) = (a : Int) * ((k : Int) + 1) by simp]
  rfl
end Go.Proofs.YtmkanjcehhbmlaaGreatDoor.Pr
end

section
namespace Go.Proofs.YtmkanjcehhbmlaaGreatDoor.Pr
set_option linter.unusedSimpArgs false
set_option linter.unusedVariables false
open Go.RowKit Go.Sort
set_option maxHeartbeats 4000000 in
set_option maxRecDepth 1000000 in
theorem search_calls (g : Nat) (cb : Array Value) (n : Nat) (p : Nat → Bool) (w : World) (eg : ∀ args w, (callFunc g args).run Tryz.prog w = .ok (.enter g args) w) (hsz : n < 4611686018427387904)
    (hf : ∀ (W : World) (i : Nat), Below w.heap.size w W → i < n → Calls Tryz.prog g (#[.int .i64 i] ++ cb) W fun e w' => e = .returned (.bool (p i)) ∧ Below W.heap.size W w')
    (hmono : ∀ a b, a ≤ b → b < n → p a = true → p b = true) :
    Calls Tryz.prog 116 #[.int .i64 n, .func (.func g) #[] cb] w fun e w' => ∃ d : Nat, e = .returned (.int .i64 d) ∧ d ≤ n ∧ (∀ t, t < d → p t = false) ∧ (∀ t, d ≤ t → t < n → p t = true) ∧ Below w.heap.size w w' := by
  have HF := Lib.hid hf
  have M := Lib.hid hmono
  clear hf hmono
  go_enter Tryz.func116, Tryz.ntmps116
  go_wp2
  go_loopg [5, 6] n (fun kx s5 s6 wr => ∃ (lo hi : Nat), s5 = .int .i64 lo ∧ s6 = .int .i64 hi ∧ lo ≤ hi ∧ hi ≤ n ∧ hi - lo ≤ kx ∧ Hid (Below w.heap.size w wr) ∧
    Hid ((∀ t, t < lo → p t = false) ∧ (∀ t, hi ≤ t → t < n → p t = true)))
  case atStart => exact ⟨0, n, rfl, rfl, Nat.zero_le _, Nat.le_refl _, by omega, Lib.hid (Below.refl _ _), Lib.hid ⟨fun t ht => absurd ht (Nat.not_lt_zero _), fun t h1 h2 => by omega⟩⟩
  case round =>
    obtain ⟨lo, hi, rfl, rfl, hlh, hin, hg, HB, I⟩ := hrel
    by_cases hlt : lo < hi
    · have hc := HF.out wr ((lo + hi) / 2) HB.out (by omega)
      rw [show (((lo + hi) / 2 : Nat) : Int) = ((lo : Int) + (hi : Int)) / 2 by omega] at hc
      cases hp : p ((lo + hi) / 2) <;> rw [hp] at hc
      · have HP := Lib.hid hp
        clear hp
        go_wp2_with fail
        refine hc.mono ?_
        rintro e w' ⟨rfl, hb⟩
        go_wp2
        go_roundg (hi - ((lo + hi) / 2 + 1))
        case measure => omega
        case rel =>
          have I2 : Hid ((∀ t, t < (lo + hi) / 2 + 1 → p t = false) ∧ (∀ t, hi ≤ t → t < n → p t = true)) := Lib.hid ⟨fun t ht => (by
            cases h : p t with
            | false => rfl
            | true => have := M.out t ((lo + hi) / 2) (by omega) (by omega) h; rw [HP.out] at this; cases this), I.out.2⟩
          exact ⟨(lo + hi) / 2 + 1, hi, by rw [show ((lo : Int) + (hi : Int)) / 2 + 1 = (((lo + hi) / 2 + 1 : Nat) : Int) by omega], rfl, by omega, hin, Nat.le_refl _, Lib.hid (HB.out.trans (hb.mono HB.out.size)), I2⟩
      · have HP := Lib.hid hp
        clear hp
        go_wp2_with fail
        refine hc.mono ?_
        rintro e w' ⟨rfl, hb⟩
        go_wp2
        go_roundg ((lo + hi) / 2 - lo)
        case measure => omega
        case rel =>
          have I2 : Hid ((∀ t, t < lo → p t = false) ∧ (∀ t, (lo + hi) / 2 ≤ t → t < n → p t = true)) := Lib.hid ⟨I.out.1, fun t ht htn => M.out ((lo + hi) / 2) t ht htn HP.out⟩
          exact ⟨lo, (lo + hi) / 2, rfl, by rw [show ((lo : Int) + (hi : Int)) / 2 = (((lo + hi) / 2 : Nat) : Int) by omega], by omega, by omega, Nat.le_refl _, Lib.hid (HB.out.trans (hb.mono HB.out.size)), I2⟩
    · obtain rfl : hi = lo := by omega
      go_wp2
      go_ret
      exact ⟨hi, rfl, hin, I.out.1, I.out.2, HB.out⟩
end Go.Proofs.YtmkanjcehhbmlaaGreatDoor.Pr
end

section
namespace Go.Proofs.YtmkanjcehhbmlaaGreatDoor.Pr
set_option linter.unusedSimpArgs false
set_option linter.unusedVariables false
open Go.RowKit Go.Shelf Go.Proofs.YtmkanjcehhbmlaaGreatDoorW.PrintWords Go.Proofs.YtmkanjcehhbmlaaGreatDoorW.PrintLast Go.Proofs.YtmkanjcehhbmlaaGreatDoorW.PrintMore
theorem append_run (ty : TypeId) (W : World) (x : Int) (ys : List Int) (A : Option Addr) (c : Nat) (hC : CU W A ys) (hl : ys.length ≤ 100000) :
    ∃ v1 w1, (Builtin.append_ #[63, 63] ty #[.slice (some ⟨W.heap.size, 0, none⟩) 1 1, .slice A ys.length c]).run Tryz.prog (W.alloc (.cells #[.int .u64 x] 99)) = .ok v1 w1 ∧
      w1.ownsRow W.heap.size 99 1 v1 (1 + ys.length) ([.int .u64 x] ++ ys.map (Value.int .u64)) ∧ Below W.heap.size W w1 := by
  obtain ⟨i0, hi, hz0, hz1, hz2⟩ := info_parts info99
  have hown : (W.alloc (.cells #[.int .u64 x] 99)).ownsRow W.heap.size 99 1 (.slice (some ⟨W.heap.size, 0, none⟩) 1 1) 1 [.int .u64 x] :=
    World.ownsRow_lit W #[.int .u64 x] 1 (Nat.le_refl _) (by decide) rfl
  rcases A with _ | ad
  · have h0 : ys = [] := by
      rcases Nat.eq_zero_or_pos ys.length with h0 | h0
      · exact List.eq_nil_of_length_eq_zero h0
      · obtain ⟨ad, h, _⟩ := hC.2.2 h0
        cases h
    subst h0
    refine ⟨_, _, ?_, hown, (Below.refl _ W).alloc (Nat.le_refl _) _⟩
    have hnc := (World.alloc_heap_new W (.cells #[.int .u64 x] 99))
    simp [Builtin.append_, run_underlying Tryz.underlying63, sizeOf, typeInfo, hi, Builtin.lenOf, Builtin.firstCells, hnc, storeCells]
  · obtain ⟨v1, w1, hr, h2, h3, h4⟩ := run_append_own (P := Tryz.prog) (W.alloc (.cells #[.int .u64 x] 99)) W.heap.size 63 ty 99 i0 (.int .u64 0) 1 8 Tryz.underlying63 hi hz0 hz1 hz2 rfl (by decide) _ 1 [.int .u64 x] hown ad ys.length c (ys.map (Value.int .u64)) (by simp)
      (fun j u hu => by
        have hj : j < ys.length := by
          rcases Nat.lt_or_ge j ys.length with h | h
          · exact h
          · simp [List.getElem?_eq_none h] at hu
        obtain ⟨b, off, e, hb, hc⟩ := cu_cells hC (by omega)
        cases e
        have hu2 : u = .int .u64 (rd ys (j : Nat)) := by
          rw [rd_nat, List.getD_eq_getElem?_getD, List.getElem?_eq_getElem hj]
          simp [List.getElem?_eq_getElem hj] at hu
          simpa using hu.symm
        rw [hu2, show (⟨b, off, none⟩ : Addr).add j = ⟨b, off + j, none⟩ by unfold Addr.add; split <;> simp_all]
        exact (World.cell?_of_block (w := W) (a := ⟨b, off + j, none⟩) (Below.heap_alloc _ _ _ hb)).trans (hc j hj))
      (by intro u hu; obtain ⟨q, _, rfl⟩ := List.mem_map.1 hu; rfl) (by unfold maxLen; omega) (by omega) (by simp)
    exact ⟨v1, w1, hr, h2, ((Below.refl _ W).alloc (Nat.le_refl _) _).grown h3 (by simp) (fun k hk => by simp [Value.ownBlock] at hk; omega)⟩
theorem wpListIn_append_x {F : Fence} {n : Nat} (W : World) {ops : Array Oper} {rest : List Oper} {o : Oper} {a : Act} {Q : Exit → Act → World → Prop}
    (hg : o.guard = none) (s x : Operand) (hop : o.op = Op.call { callee := Callee.builtin Builtin.append, args := #[s, x], argTypes := #[63, 63] })
    (z : Int) (ys : List Int) (A : Option Addr) (m c : Nat) (hs : a.eval s = .slice (some ⟨W.heap.size, 0, none⟩) 1 1) (hx : a.eval x = .slice A m c) (hm : m = ys.length) (hC : CU W A ys) (hl : ys.length ≤ 100000)
    (hK : ∀ A' c' w', (Kd.int .u64).V 99 w' w'.heap.size (fun k => W.heap.size ≤ k) (.slice A' (z :: ys).length c') (z :: ys) → Below W.heap.size W w' → wpListIn F n Tryz.prog ops Q rest (a.put o.dst (.slice A' (z :: ys).length c')) w') :
    wpListIn F n Tryz.prog ops Q (o :: rest) a (W.alloc (.cells #[.int .u64 z] 99)) := by
  subst hm
  refine wpListIn_plain hg fun K hK' => ?_
  obtain ⟨v', w', hrun, r1, r2⟩ := append_run o.type W z ys A c hC hl
  have hR : (Kd.int .u64).R 99 w' W.heap.size (fun k => W.heap.size ≤ k) v' (z :: ys) := Kd.R_of_own (by rw [show (z :: ys).length = 1 + ys.length by simp; omega]; exact r1) (fun k hk => (r1.lt k hk).1)
  obtain ⟨A', c', e⟩ := Kd.R_slice hR
  subst e
  unfold Oper.wpIn
  refine ⟨?_, ?_⟩
  · simp [Oper.about, hop, resolve, Target.leads, Sem.run_pure]
  · rw [Oper.semAt_plain F _ _ (by rw [hop]; intro c hc'; cases hc')]
    simp [execOp, hop, resolve, invoke, builtin, hs, hx, hrun, Result.andThen]
    exact hK' _ _ (hK A' c' w' (Kd.R_V hR) r2)
end Go.Proofs.YtmkanjcehhbmlaaGreatDoor.Pr
end
