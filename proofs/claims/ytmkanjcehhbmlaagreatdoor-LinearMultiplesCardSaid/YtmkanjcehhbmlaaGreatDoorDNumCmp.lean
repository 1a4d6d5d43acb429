/- The contract of natural.number.compare. -/
import Derived.Outline
import Derived.Test.YtmkanjcehhbmlaaGreatDoorDGW
import Derived.Test.YtmkanjcehhbmlaaGreatDoorDNum
import Derived.Test.YtmkanjcehhbmlaaGreatDoorDWLast
set_option linter.all false
section
namespace Go.Proofs.YtmkanjcehhbmlaaGreatDoor.Pr
set_option linter.unusedSimpArgs false
open Go.RowKit Go.Shelf Go.Proofs.YtmkanjcehhbmlaaGreatDoorW.PrintWords Go.Proofs.YtmkanjcehhbmlaaGreatDoorW.PrintLast Go.Proofs.YtmkanjcehhbmlaaGreatDoorW.PrintMore
/-- cmp.Compare of whole numbers. -/
def cmp3 (x y : Int) : Int := if x < y then -1 else if y < x then 1 else 0
theorem cmpInt_calls (x y : Int) (w : World) : Calls Tryz.prog 119 #[.int .i64 x, .int .i64 y] w fun e w' => e = .returned (.int .i64 (cmp3 x y)) ∧ w = w' := by
  unfold cmp3
  rcases Int.lt_trichotomy x y with h | h | h
  · have h2 : ¬ y < x := by omega
    go_enter Tryz.func119, Tryz.ntmps119
    go_wp2
    go_ret
    exact ⟨by simp [h], rfl⟩
  · subst h
    go_enter Tryz.func119, Tryz.ntmps119
    go_wp2
    go_ret
    exact ⟨by simp, rfl⟩
  · have h2 : ¬ x < y := by omega
    go_enter Tryz.func119, Tryz.ntmps119
    go_wp2
    go_ret
    exact ⟨by simp [h, h2], rfl⟩
theorem cmpU_calls (x y : Int) (w : World) : Calls Tryz.prog 120 #[.int .u64 x, .int .u64 y] w fun e w' => e = .returned (.int .i64 (cmp3 x y)) ∧ w = w' := by
  unfold cmp3
  rcases Int.lt_trichotomy x y with h | h | h
  · have h2 : ¬ y < x := by omega
    go_enter Tryz.func120, Tryz.ntmps120
    go_wp2
    go_ret
    exact ⟨by simp [h], rfl⟩
  · subst h
    go_enter Tryz.func120, Tryz.ntmps120
    go_wp2
    go_ret
    exact ⟨by simp, rfl⟩
  · have h2 : ¬ x < y := by omega
    go_enter Tryz.func120, Tryz.ntmps120
    go_wp2
    go_ret
    exact ⟨by simp [h, h2], rfl⟩
/-- The limbs below place n, compared from the top. -/
def scan (xs ys : List Int) : Nat → Int
  | 0 => 0
  | n + 1 => if cmp3 (rd xs n) (rd ys n) = 0 then scan xs ys n else cmp3 (rd xs n) (rd ys n)
def cmpL (xs ys : List Int) : Int := if cmp3 xs.length ys.length = 0 then scan xs ys xs.length else cmp3 xs.length ys.length
theorem scan_skip (xs ys : List Int) (n : Nat) : ∀ k, k ≤ n → (∀ j, j < k → cmp3 (rd xs ((n - 1 - j : Nat) : Int)) (rd ys ((n - 1 - j : Nat) : Int)) = 0) → scan xs ys n = scan xs ys (n - k) := by
  intro k
  induction k with
  | zero => intro _ _; rfl
  | succ k ih =>
    intro hk h
    rw [ih (by omega) (fun j hj => h j (by omega))]
    obtain ⟨m, hm⟩ : ∃ m, n - k = m + 1 := ⟨n - k - 1, by omega⟩
    have h1 := h k (by omega)
    rw [show n - 1 - k = m by omega] at h1
    rw [hm, show n - (k + 1) = m by omega]
    rw [scan, if_pos h1]
attribute [local go_sem] Oper.semAt_some
set_option linter.unusedSimpArgs false
set_option maxRecDepth 100000 in
set_option maxHeartbeats 4000000 in
theorem compare_eq (A B : Option Addr) (c d : Nat) (xs ys : List Int) (w : World) (hx : CU w A xs) (hy : CU w B ys) (hlen : xs.length = ys.length) (hr : xs.length ≤ 100000) :
    Calls Tryz.prog 90 #[.slice A xs.length c, .slice B ys.length d] w fun e w' => e = .returned (.int .i64 (scan xs ys xs.length)) ∧ Below w.heap.size w w' := by
  refine (callsIn_wide (n := 6)).1 ?_
  refine callsIn_of_wp_marks Tryz.func90 rfl trivial ?_ rfl
  have hz : cmp3 (xs.length : Int) (ys.length : Int) = 0 := by unfold cmp3; simp [hlen]
  simp only [Tryz.ntmps90, List.size_toArray, List.length_cons, List.length_nil, Nat.reduceAdd, Nat.reduceSub, Array.replicate_succ, Array.replicate_zero, List.push_toArray, List.append_toArray, List.nil_append, List.cons_append]
  have HL := Lib.hid hlen
  clear hlen
  gi_wp2_with (first | (refine ⟨trivial, ?_⟩; gi_at_call 119; refine (callsIn_wide.2 (cmpInt_calls _ _ _)).mono ?_; rintro e w' ⟨rfl, rfl⟩; rw [hz]) | (refine ⟨trivial, ?_⟩; gi_at_call 110; refine (back_in _ _ trivial rfl _ _ _ _).mono ?_; rintro e w' ⟨rfl, rfl⟩))

  obtain ⟨W0, hW0⟩ : ∃ W0, ((w.alloc (.cells #[.slice B ys.length d] 63)).alloc (.cells #[.int .i64 0] 3)).alloc (.cells #[.slice A xs.length c] 63) = W0 := ⟨_, rfl⟩
  have hs0 : W0.heap.size = w.heap.size + 3 := by rw [← hW0]; simp
  have hB0 : W0.heap[w.heap.size]? = some (.cells #[.slice B ys.length d] 63 (0, 0)) := by
    rw [← hW0]; exact ((Below.heap_alloc _ _ _ (by simp; omega)).trans (Below.heap_alloc _ _ _ (by simp))).trans (World.alloc_heap_new w _)
  have hB1 : W0.heap[w.heap.size + 1]? = some (.cells #[.int .i64 0] 3 (0, 0)) := by
    rw [← hW0]; refine (Below.heap_alloc _ _ _ (by simp)).trans ?_
    have := World.alloc_heap_new (w.alloc (.cells #[.slice B ys.length d] 63)) (.cells #[.int .i64 0] 3); rwa [World.size_alloc] at this
  have hB2 : W0.heap[w.heap.size + 1 + 1]? = some (.cells #[.slice A xs.length c] 63 (0, 0)) := by
    rw [← hW0]; have := World.alloc_heap_new ((w.alloc (.cells #[.slice B ys.length d] 63)).alloc (.cells #[.int .i64 0] 3)) (.cells #[.slice A xs.length c] 63); rwa [World.size_alloc, World.size_alloc] at this
  have hBW : Below w.heap.size w W0 := by rw [← hW0]; exact (((Below.refl _ w).alloc (Nat.le_refl _) _).alloc (by simp) _).alloc (by simp; omega) _
  rw [hW0]
  clear hW0
  refine wpIn_rangeFunc_ownF rfl (by omega) (gf := 132) (lb := #[.pointer (some ⟨w.heap.size + 1 + 1, 0, none⟩)]) rfl trivial (enters_of Tryz.func132 (by kernel_rfl) rfl)
    (back_stops Fence.wide 5 trivial rfl (by omega) (w.heap.size + 1 + 1) w.heap.size c A xs hr W0 w (by omega) (cell_of_box _ _ _ _ hB2).1 hx (Nat.le_refl _) (by omega) hBW) keepAt_t (keepAt_b (by omega) (by omega)) (Below.refl _ _) (fun _ => rfl)
    (fun pre W => ((∀ k ∈ pre, cmp3 (rd xs ((xs.length - 1 - k.1 : Nat) : Int)) (rd ys ((xs.length - 1 - k.1 : Nat) : Int)) = 0) ∧ W.cell? ⟨w.heap.size, 0, none⟩ = some (.slice B ys.length d) ∧ W.cell? ⟨w.heap.size + 1, 0, none⟩ = some (.int .i64 0) ∧ W.frozen? ⟨w.heap.size + 1, 0, none⟩ = false) ∧ Below w.heap.size w W)
    (fun cc pre W => (cc = .ret ∧ (∃ pre0 k, pre = pre0 ++ [k] ∧ (∀ k ∈ pre0, cmp3 (rd xs ((xs.length - 1 - k.1 : Nat) : Int)) (rd ys ((xs.length - 1 - k.1 : Nat) : Int)) = 0) ∧ ¬ cmp3 (rd xs ((xs.length - 1 - k.1 : Nat) : Int)) (rd ys ((xs.length - 1 - k.1 : Nat) : Int)) = 0 ∧ W.cell? ⟨w.heap.size + 1, 0, none⟩ = some (.int .i64 (cmp3 (rd xs ((xs.length - 1 - k.1 : Nat) : Int)) (rd ys ((xs.length - 1 - k.1 : Nat) : Int)))))) ∧ Below w.heap.size w W)
    (OwnFrom.and (Own.from (fun s A B row hs hg hr => ⟨hs.1, cell_kept hs.2.1 hg hr, cell_kept hs.2.2.1 hg hr, (frozen_kept hs.2.2.1 hg hr).trans hs.2.2.2⟩) _) (ownFrom_below (Nat.le_refl _) (by omega)))
    (fun c => OwnFrom.and (Own.from (fun s A B row hs hg hr => ⟨hs.1, by obtain ⟨p0, k, e, h1, h2, h3⟩ := hs.2; exact ⟨p0, k, e, h1, h2, cell_kept h3 hg hr⟩⟩) _) (ownFrom_below (Nat.le_refl _) (by omega)))
    ⟨⟨by simp, (cell_of_box _ _ _ _ hB0).1, (cell_of_box _ _ _ _ hB1).1, (cell_of_box _ _ _ _ hB1).2⟩, hBW⟩
    (fun x => { tmps := #[.slice A xs.length c, .slice B ys.length d, undef, .pointer (some ⟨w.heap.size, 0, none⟩), .pointer (some ⟨w.heap.size + 1, 0, none⟩), .int .i64 0, .int .i64 (bk xs x.1).1, .int .u64 (bk xs x.1).2, undef, .slice A xs.length c, .int .i64 xs.length, .slice B ys.length d, .int .i64 ys.length, .int .i64 0, .int .i64 0, .bool false, undef, .slice A xs.length c,
      .func (.func 132) #[] #[.pointer (some ⟨w.heap.size + 1 + 1, 0, none⟩)], .int .i64 (bk xs x.1).1, .int .u64 (bk xs x.1).2, undef, undef, undef, undef, undef, undef, undef, undef, undef], defers := [] }) ?assign ?body ?done ?stop
  case assign =>
    intro l x W K hK
    gi_wp2
    exact hK
  case body =>
    rintro l pre ⟨k, hk⟩ W ⟨⟨hp, hc0, hc1, hf1⟩, hB⟩ _
    have hlen := HL.out
    obtain ⟨m, hm⟩ : ∃ m : Nat, m = xs.length - 1 - k := ⟨_, rfl⟩
    obtain ⟨b, off, rfl, hb, hcs⟩ := cu_cells hy (by omega)
    have hym : m < ys.length := by omega
    have hcy := (hB.cell (p := ⟨b, off + m, none⟩) hb).trans (hcs m hym)
    have e1 : bk xs k = ((m : Int), rd xs (m : Nat)) := by rw [hm]; rfl
    have HM := Lib.hid hm
    clear hm hcs hlen
    simp only [e1]
    obtain ⟨r, hr0⟩ : ∃ r, r = cmp3 (rd xs (m : Nat)) (rd ys (m : Nat)) := ⟨_, rfl⟩
    have HR := Lib.hid hr0
    clear hr0
    by_cases hz0 : r = 0
    · have hz1 : (r == 0) = true := by simpa using hz0
      have hz2 : (r != 0) = false := by simpa using hz0
      have HZ := Lib.hid hz0
      clear hz0
      gi_wp2_with (refine ⟨trivial, ?_⟩; gi_at_call 120; refine (CallsIn.inRound l (callsIn_wide.2 (cmpU_calls _ _ _))).mono ?_; rintro e w' ⟨rfl, rfl⟩; rw [← HR.out])
      refine ⟨KeepsOthers.refl _, KeepAt.refl _ _ _, ⟨fun k' hk' => ?_, hc0, hc1, hf1⟩, hB⟩
      rcases List.mem_append.1 hk' with h' | h'
      · exact hp k' h'
      · rw [List.mem_singleton.1 h']
        have e2 := HR.out
        rw [HZ.out, HM.out] at e2
        exact e2.symm
    · have hz1 : (r == 0) = false := by simpa using hz0
      have hz2 : (r != 0) = true := by simpa using hz0
      have HZ := Lib.hid hz0
      clear hz0
      gi_wp2_with (refine ⟨trivial, ?_⟩; gi_at_call 120; refine (CallsIn.inRound l (callsIn_wide.2 (cmpU_calls _ _ _))).mono ?_; rintro e w' ⟨rfl, rfl⟩; rw [← HR.out])
      have e2 := HR.out
      have e3 := HZ.out
      rw [HM.out] at e2
      refine ⟨KeepsOthers.setCell _ _ _, ⟨rfl, pre, ⟨k, hk⟩, rfl, hp, ?_, ?_⟩, hB.setCell (p := ⟨w.heap.size + 1, 0, none⟩) (by simp) _⟩
      · rw [← e2]; exact e3
      · rw [← e2]; exact World.cell?_setCell_same' _ _ _ (by rw [hc1]; rfl)
  case done =>
    rintro D ks W hD hS ⟨⟨hne, _, hcr, hfr⟩, hB⟩ hK
    gi_wp2
    have hK' := (KeepsOthers.setCell W ⟨w.heap.size + 1, 0, none⟩ (.int .i64 0)).same D _ hK rfl
    refine ⟨by simp, .inl ⟨_, _, rfl, run_takeDeferred hK', ?_⟩⟩
    have hc5 := cell_kept (World.cell?_setCell_same' W ⟨w.heap.size + 1, 0, none⟩ (.int .i64 0) (by rw [hcr]; rfl)) (grownBy_putObj' _ D (.deferred none)) (fun r e => by cases e; exact ⟨_, hK', rfl⟩)
    have hall : ∀ j, j < xs.length → cmp3 (rd xs ((xs.length - 1 - j : Nat) : Int)) (rd ys ((xs.length - 1 - j : Nat) : Int)) = 0 := by
      intro j hj
      have : j ∈ List.map Subtype.val ks := by rw [show List.map Subtype.val ks = _ from hS]; simpa using hj
      obtain ⟨q, hq, rfl⟩ := List.mem_map.1 this
      exact hne q hq
    refine ⟨.int .i64 0, ?_, ?_, (hB.setCell (p := ⟨w.heap.size + 1, 0, none⟩) (by simp) _).trans (belowK_b (w := w) (Nat.le_refl _) _ D _ _ (by omega) hK' rfl rfl)⟩
    · simp [results, Tryz.f90, go_sem, hc5]
    · rw [scan_skip xs ys xs.length xs.length (Nat.le_refl _) hall]; simp [scan]
  case stop =>
    rintro D cc pre W hD ⟨kk, hkk, hS⟩ ⟨⟨rfl, pre0, k, rfl, hp0, hnz, hcr⟩, hB⟩ hK
    gi_wp2
    refine ⟨by simp, .inl ⟨_, _, rfl, run_takeDeferred hK, ?_⟩⟩
    have hc5 := cell_kept hcr (grownBy_putObj' _ D (.deferred none)) (fun r e => by cases e; exact ⟨_, hK, rfl⟩)
    have hS' : List.map Subtype.val pre0 ++ [k.1] = List.range kk ++ [kk] := by rw [← List.range_succ, ← hS, List.map_append]; rfl
    have hlen2 := congrArg List.length hS'
    simp at hlen2
    obtain ⟨e1, e2⟩ := List.append_inj hS' (by simpa using hlen2)
    have ek : k.1 = kk := by simpa using e2
    have hall : ∀ j, j < kk → cmp3 (rd xs ((xs.length - 1 - j : Nat) : Int)) (rd ys ((xs.length - 1 - j : Nat) : Int)) = 0 := by
      intro j hj
      have : j ∈ List.map Subtype.val pre0 := by rw [e1]; simpa using hj
      obtain ⟨q, hq, rfl⟩ := List.mem_map.1 this
      exact hp0 q hq
    refine ⟨.int .i64 (cmp3 (rd xs ((xs.length - 1 - k.1 : Nat) : Int)) (rd ys ((xs.length - 1 - k.1 : Nat) : Int))), ?_, ?_, hB.trans (belowK_b (w := w) (Nat.le_refl _) W D _ _ (by omega) hK rfl rfl)⟩
    · simp [results, Tryz.f90, go_sem, hc5]
    · rw [scan_skip xs ys xs.length kk (by omega) hall]
      obtain ⟨m, hm⟩ : ∃ m, xs.length - kk = m + 1 := ⟨xs.length - kk - 1, by omega⟩
      rw [hm, scan, ek, show xs.length - 1 - kk = m by omega, if_neg (by rw [ek, show xs.length - 1 - kk = m by omega] at hnz; exact hnz)]
set_option maxRecDepth 100000 in
set_option maxHeartbeats 4000000 in
theorem compare_ne (A B : Option Addr) (c d m n : Nat) (w : World) (hlen : m ≠ n) (hm : m ≤ 100000) (hn : n ≤ 100000) :
    Calls Tryz.prog 90 #[.slice A m c, .slice B n d] w fun e w' => e = .returned (.int .i64 (cmp3 m n)) ∧ Below w.heap.size w w' := by
  refine (callsIn_wide (n := 6)).1 ?_
  refine callsIn_of_wp_marks Tryz.func90 rfl trivial ?_ rfl
  obtain ⟨r, hr0⟩ : ∃ r, r = cmp3 m n := ⟨_, rfl⟩
  have hr1 : ¬ r = 0 := by rw [hr0]; unfold cmp3; split; · simp
                           · split
                             · simp
                             · omega
  have hz1 : (r == 0) = false := by simpa using hr1
  have hz2 : (r != 0) = true := by simpa using hr1
  rw [← hr0]
  have HR := Lib.hid hr0
  clear hr0 hr1
  simp only [Tryz.ntmps90, List.size_toArray, List.length_cons, List.length_nil, Nat.reduceAdd, Nat.reduceSub, Array.replicate_succ, Array.replicate_zero, List.push_toArray, List.append_toArray, List.nil_append, List.cons_append]
  gi_wp2_with (refine ⟨trivial, ?_⟩; gi_at_call 119; refine (callsIn_wide.2 (cmpInt_calls _ _ _)).mono ?_; rintro e w' ⟨rfl, rfl⟩; rw [← HR.out])
  refine ⟨.int .i64 r, ?_, rfl, ?_⟩
  · simp [results, Tryz.f90, go_sem]
  · exact (((Below.refl _ w).alloc (Nat.le_refl _) _).alloc (by simp) _)
/-- natural.number.compare: as cmpL says. -/
theorem compare_calls (A B : Option Addr) (c d : Nat) (xs ys : List Int) (w : World) (hx : CU w A xs) (hy : CU w B ys) (hr : xs.length ≤ 100000) (hr2 : ys.length ≤ 100000) :
    Calls Tryz.prog 90 #[.slice A xs.length c, .slice B ys.length d] w fun e w' => e = .returned (.int .i64 (cmpL xs ys)) ∧ Below w.heap.size w w' := by
  by_cases h : xs.length = ys.length
  · have : cmpL xs ys = scan xs ys xs.length := by unfold cmpL; rw [if_pos (by unfold cmp3; simp [h])]
    rw [this]
    exact compare_eq A B c d xs ys w hx hy h hr
  · have : cmpL xs ys = cmp3 xs.length ys.length := by
      unfold cmpL
      rw [if_neg]
      unfold cmp3
      split
      · simp
      · split
        · simp
        · omega
    rw [this]
    exact compare_ne A B c d xs.length ys.length w h hr hr2
end Go.Proofs.YtmkanjcehhbmlaaGreatDoor.Pr
end
