/- Numbers in memory: how a slice of limbs reads; the contract of slices.Backward over such a slice. -/
import Derived.Test.YtmkanjcehhbmlaaGreatDoorProg
import Derived.WalkKit
import Derived.Lib.Hide
import Derived.BigQuiet
import Derived.Deep.QuietTactic
import Derived.RangeFuncNested
import Derived.RangeFuncBound
import Derived.RangeFuncCalls
import Derived.RangeFuncLeaves
import Derived.RangeFuncBox
import Derived.Shelf.Abstract
import Derived.Shelf.RegionOpen
import Derived.OwnWalkIn
import Derived.TacticsInMore
import Derived.LoopNIn
import Derived.LoopIn
import Derived.Test.YtmkanjcehhbmlaaGreatDoorDGW
import Derived.Test.YtmkanjcehhbmlaaGreatDoorDWLast
set_option linter.all false
section
namespace Go.Proofs.YtmkanjcehhbmlaaGreatDoor.Pr
open Go.RowKit Go.Shelf Go.Proofs.YtmkanjcehhbmlaaGreatDoorW.PrintWords Go.Proofs.YtmkanjcehhbmlaaGreatDoorW.PrintLast Go.Proofs.YtmkanjcehhbmlaaGreatDoorW.PrintMore
abbrev CU (w : World) (A : Option Addr) (xs : List Int) : Prop := (Kd.int .u64).C w A xs.length xs
/-- The cells of a slice of limbs. -/
theorem cu_cells {w : World} {A : Option Addr} {xs : List Int} (h : CU w A xs) (h0 : 0 < xs.length) :
    ∃ b off, A = some ⟨b, off, none⟩ ∧ b < w.heap.size ∧ ∀ j, j < xs.length → w.cell? ⟨b, off + j, none⟩ = some (.int .u64 (rd xs (j : Nat))) := by
  obtain ⟨ad, c, hA, hl, hK, hc⟩ := Kd.C_get h (0 : Int) 0 (by omega) (by omega)
  have hK' : c = [Value.int .u64 (xs.getD 0 0)] := hK
  subst hK'
  have h00 := hc 0 _ rfl
  have e0 : ad.add ((0 : Int).toNat * (Kd.int IntKind.u64).sz + 0) = ad := by simp [Addr.add]
  rw [e0] at h00
  have hsp : ad.spot = none := by
    cases hs : ad.spot with
    | none => rfl
    | some x =>
      exfalso
      unfold World.cell? at h00
      split at h00
      · rw [hs] at h00; simp at h00
      · simp at h00
  obtain ⟨b, off, sp⟩ := ad
  simp only at hsp
  subst hsp
  refine ⟨b, off, hA, World.block_lt_of_cell? w ⟨b, off, none⟩ h00, fun j hj => ?_⟩
  obtain ⟨ad', c', hA', hl', hK', hc'⟩ := Kd.C_get h (0 : Int) (j : Int) (by omega) (by omega)
  rw [hA] at hA'
  obtain rfl := Option.some.inj hA'
  have hK2 : c' = [Value.int .u64 (xs.getD (j : Int).toNat 0)] := hK'
  subst hK2
  have hj0 := hc' 0 _ rfl
  have ej : (⟨b, off, none⟩ : Addr).add ((j : Int).toNat * (Kd.int IntKind.u64).sz + 0) = ⟨b, off + j, none⟩ := by
    have : (Kd.int IntKind.u64).sz = 1 := rfl
    rw [this]
    unfold Addr.add
    split <;> simp_all
  rw [ej] at hj0
  exact hj0
attribute [local go_sem] Oper.semAt_some
theorem cell_of_box (W : World) (B : Nat) (v : Value) (t : TypeId) (h : W.heap[B]? = some (.cells #[v] t (0, 0))) : W.cell? ⟨B, 0, none⟩ = some v ∧ W.frozen? ⟨B, 0, none⟩ = false := by
  constructor <;> simp [World.cell?, World.frozen?, h]
def Limbs (xs : List Int) : Prop := ∀ x ∈ xs, 0 ≤ x ∧ x < 1000000000
theorem Limbs.rd {xs : List Int} (h : Limbs xs) (i : Int) : 0 ≤ rd xs i ∧ rd xs i < 1000000000 := by
  unfold YtmkanjcehhbmlaaGreatDoorW.PrintWords.rd
  rcases Nat.lt_or_ge i.toNat xs.length with hi | hi
  · rw [List.getD_eq_getElem?_getD, List.getElem?_eq_getElem hi]
    exact h _ (List.getElem_mem hi)
  · rw [List.getD_eq_getElem?_getD, List.getElem?_eq_none hi]
    simp
/-- The rounds. -/
abbrev Rn (zs : List Int) := { k : Nat // k < zs.length }
/-- What slices.Backward yields in round k: index and value. -/
def bk (zs : List Int) (k : Nat) : Int × Int := (((zs.length - 1 - k : Nat) : Int), rd zs ((zs.length - 1 - k : Nat) : Int))
/-- What a round keeps: the iterator's own box, and all that lay below n₀. -/
def KeepAt (Bs n₀ : Nat) (W W' : World) : Prop := W'.heap[Bs]? = W.heap[Bs]? ∧ Below n₀ W W'
theorem keepAt_t {Bs n₀ : Nat} {A B C : World} (h : KeepAt Bs n₀ A B) (k : KeepAt Bs n₀ B C) : KeepAt Bs n₀ A C := ⟨k.1.trans h.1, h.2.trans k.2⟩
theorem keepAt_b {Bs n₀ : Nat} {w : World} (hBs : Bs < w.heap.size) (hn : n₀ ≤ w.heap.size) (W : World) (l : Nat) (o o' : Obj) (hl : w.heap.size ≤ l) (h : W.heap[l]? = some o) (h1 : o.isCells = false) (h2 : o.isWalk = false) : KeepAt Bs n₀ W (W.putObj l o') :=
  ⟨World.putObj_heap_other (by omega), belowK_b hn W l o o' hl h h1 h2⟩
theorem KeepAt.refl (Bs n₀ : Nat) (W : World) : KeepAt Bs n₀ W W := ⟨rfl, Below.refl _ _⟩
set_option maxRecDepth 100000 in
set_option maxHeartbeats 2000000 in
theorem back1_in (F : Fence) (n : Nat) (hf : F.fn 132) (hro : F.round = none) (hn : 1 ≤ n) (l Bs n₀ b off cap : Nat) (zs : List Int) (hreach : zs.length ≤ 100000) (hb : b < n₀) (J Jx : List (Rn zs) → World → Prop)
    (hY : ∀ pre x W, J pre W → pre.length < zs.length → YieldAt F (n - 1) Tryz.prog l #[.int .i64 (bk zs x.1).1, .int .u64 (bk zs x.1).2] W fun e W' =>
      (e = .returned (.bool true) ∧ J (pre ++ [x]) W' ∧ KeepAt Bs n₀ W W') ∨ (e = .returned (.bool false) ∧ Jx (pre ++ [x]) W'))
    (W : World) (hBs : W.cell? ⟨Bs, 0, none⟩ = some (.slice (some ⟨b, off, none⟩) zs.length cap)) (hc : ∀ j, j < zs.length → W.cell? ⟨b, off + j, none⟩ = some (.int .u64 (rd zs (j : Nat)))) (h0 : J [] W) :
    CallsIn F n Tryz.prog 132 #[.func (.yield l) #[] #[], .pointer (some ⟨Bs, 0, none⟩)] W fun e W' => (∃ v, e = .returned v) ∧
      ((∃ ys, ys.map Subtype.val = List.range zs.length ∧ J ys W') ∨ (∃ pre, (∃ k, k < zs.length ∧ pre.map Subtype.val = List.range (k + 1)) ∧ Jx pre W')) := by
  refine callsIn_of_wp Tryz.func132 rfl hf ?_ hro
  simp only [Tryz.ntmps132, List.size_toArray, List.length_cons, List.length_nil, Nat.reduceAdd, Nat.reduceSub, Array.replicate_succ, Array.replicate_zero, List.push_toArray, List.append_toArray, List.nil_append, List.cons_append]
  gi_wp2
  gi_loopw [3] (fun i wr => ∃ k : Nat, k ≤ zs.length ∧ i = .int .i64 ((zs.length : Int) - 1 - k) ∧ (∃ ys, ys.map Subtype.val = List.range k ∧ J ys wr) ∧ KeepAt Bs n₀ W wr)
    (fun i _ => (intOf i + 1).toNat)
  case atStart => exact ⟨0, Nat.zero_le _, by simp, ⟨[], rfl, h0⟩, KeepAt.refl _ _ _⟩
  case round =>
    obtain ⟨k, hk, rfl, ⟨ys, hys, hJs⟩, hnx⟩ := hrel
    have HYS := Lib.hid hys
    clear hys
    have hBs' : wr.cell? ⟨Bs, 0, none⟩ = some (.slice (some ⟨b, off, none⟩) zs.length cap) := (World.cell?_of_block (w := W) (a := ⟨Bs, 0, none⟩) hnx.1).trans hBs
    by_cases hlt : k < zs.length
    · obtain ⟨m, hm⟩ : ∃ m : Nat, m + 1 + k = zs.length := ⟨zs.length - 1 - k, by omega⟩
      have hbk : bk zs k = ((m : Int), rd zs (m : Nat)) := by unfold bk; rw [show zs.length - 1 - k = m by omega]
      have hcx : wr.cell? ⟨b, off + m, none⟩ = some (.int .u64 (rd zs (m : Nat))) := (hnx.2.cell (p := ⟨b, off + m, none⟩) hb).trans (hc m (by omega))
      obtain ⟨fn, tmps, assign, body, hy, hR⟩ := hY _ ⟨k, hlt⟩ wr hJs (by have := congrArg List.length HYS.out; simp at this; omega)
      dsimp only at hy
      rw [hbk] at hy
      dsimp only at hy
      have hm2 : m < zs.length := by omega
      rw [show ((zs.length : Int) - 1 - k) = (m : Int) by omega]
      clear hc hBs
      gi_wp2
      refine hR.mono ?_
      rintro e W3 (⟨rfl, hJ3, hk3⟩ | ⟨rfl, hJx3⟩)
      · gi_wp2
        go_roundw
        case rel => exact ⟨k + 1, by omega, by first | (congr 1; done) | (congr 1; omega), ⟨_, by rw [List.map_append, HYS.out, List.range_succ]; rfl, hJ3⟩, keepAt_t hnx hk3⟩
        case measure => simp only [intOf]; omega
      · gi_wp2
        refine bodyPost_ret (results_none rfl _ _ _) rfl ?_
        exact ⟨⟨_, rfl⟩, .inr ⟨_, ⟨k, hlt, by rw [List.map_append, HYS.out, List.range_succ]; rfl⟩, hJx3⟩⟩
    · obtain rfl : k = zs.length := by omega
      rw [show ((zs.length : Int) - 1 - (zs.length : Nat)) = -1 by omega]
      gi_wp2
      go_end0
      exact ⟨⟨_, rfl⟩, .inl ⟨_, HYS.out, hJs⟩⟩
set_option maxRecDepth 100000 in
set_option maxHeartbeats 1000000 in
theorem back1_nil_in (F : Fence) (n : Nat) (hf : F.fn 132) (hro : F.round = none) (l Bs cap : Nat) (A : Option Addr) {β : Type} (J : List β → World → Prop) (W : World) (hBs : W.cell? ⟨Bs, 0, none⟩ = some (.slice A 0 cap)) (h0 : J [] W) :
    CallsIn F n Tryz.prog 132 #[.func (.yield l) #[] #[], .pointer (some ⟨Bs, 0, none⟩)] W fun e W' => (∃ v, e = .returned v) ∧ J [] W' := by
  refine callsIn_of_wp Tryz.func132 rfl hf ?_ hro
  simp only [Tryz.ntmps132, List.size_toArray, List.length_cons, List.length_nil, Nat.reduceAdd, Nat.reduceSub, Array.replicate_succ, Array.replicate_zero, List.push_toArray, List.append_toArray, List.nil_append, List.cons_append]
  gi_wp2
  gi_loopw [3] (fun i wr => i = .int .i64 (-1) ∧ J [] wr) (fun _ _ => 0)
  case atStart => exact ⟨rfl, h0⟩
  case round =>
    obtain ⟨rfl, hJs⟩ := hrel
    gi_wp2
    go_end0
    exact ⟨⟨_, rfl⟩, hJs⟩
/-- slices.Backward(s): the slice value is boxed; the function value captures the box. -/
theorem back_in (F : Fence) (n : Nat) (hf : F.fn 110) (hro : F.round = none) (a : Option Addr) (len cap : Nat) (w : World) :
    CallsIn F n Tryz.prog 110 #[.slice a len cap] w fun e w' => e = .returned (.func (.func 132) #[] #[.pointer (some ⟨w.heap.size, 0, none⟩)]) ∧ w' = w.alloc (.cells #[.slice a len cap] 63) := by
  refine callsIn_of_wp Tryz.func110 rfl hf ?_ hro
  simp only [Tryz.ntmps110, List.size_toArray, List.length_cons, List.length_nil, Nat.reduceAdd, Nat.reduceSub, Array.replicate_succ, Array.replicate_zero, List.push_toArray, List.append_toArray, List.nil_append, List.cons_append]
  gi_wp2
  go_ret
  exact ⟨rfl, rfl⟩
theorem cu_below {w w' : World} {A : Option Addr} {xs : List Int} (h : CU w A xs) (hb : Below w.heap.size w w') : CU w' A xs := Kd.C_below h hb
/-- slices.Backward(s) yields index and value from the last to the first, and reads the slice between two rounds. n₀: what lies below it stays. -/
theorem back_stops (F : Fence) (n : Nat) (hf : F.fn 132) (hro : F.round = none) (hn : 1 ≤ n) (Bs n₀ cap : Nat) (A : Option Addr) (zs : List Int) (hreach : zs.length ≤ 100000) (w w₀ : World) (hBs : Bs < w.heap.size)
    (hc : w.cell? ⟨Bs, 0, none⟩ = some (.slice A zs.length cap)) (hI : CU w₀ A zs) (h₀ : w₀.heap.size ≤ n₀) (hn₀ : n₀ ≤ w.heap.size) (hbw : Below w₀.heap.size w₀ w) :
    SeqStopsK F n Tryz.prog 132 #[.pointer (some ⟨Bs, 0, none⟩)] (fun x : Rn zs => #[Value.int .i64 (bk zs x.1).1, Value.int .u64 (bk zs x.1).2]) (KeepAt Bs n₀) (fun ys => ys.map Subtype.val = List.range zs.length) (fun pre => ∃ k, k < zs.length ∧ pre.map Subtype.val = List.range (k + 1)) zs.length w := fun l J Jx W hW _ _ hY h0 => by
  have hc' := (hW.cell (p := ⟨Bs, 0, none⟩) hBs).trans hc
  rcases Nat.eq_zero_or_pos zs.length with hz | hz
  · rw [hz] at hc'
    exact (back1_nil_in F n hf hro l Bs cap A J W hc' h0).mono fun e W' ⟨he, hj⟩ => ⟨he, .inl ⟨[], (show [] = List.range zs.length by simp [hz]), hj⟩⟩
  · obtain ⟨b, off, rfl, hb, hcs⟩ := cu_cells hI hz
    have hb2 : Below w₀.heap.size w₀ W := hbw.trans (hW.mono (by omega))
    refine (back1_in F n hf hro hn l Bs n₀ b off cap zs hreach (by omega) J Jx hY W hc' (fun j hj => (hb2.cell (p := ⟨b, off + j, none⟩) hb).trans (hcs j hj)) h0).mono ?_
    rintro e W' ⟨he, h⟩
    exact ⟨he, h⟩
end Go.Proofs.YtmkanjcehhbmlaaGreatDoor.Pr
end
