/- The contract of natural.number.div. -/
import Derived.Outline
import Derived.RangeFuncBound
import Derived.Stop.RegionWithIn
import Derived.Test.YtmkanjcehhbmlaaGreatDoorDBuild
import Derived.Test.YtmkanjcehhbmlaaGreatDoorDFmt
import Derived.Test.YtmkanjcehhbmlaaGreatDoorDGN
import Derived.Test.YtmkanjcehhbmlaaGreatDoorDGN2
import Derived.Test.YtmkanjcehhbmlaaGreatDoorDGW
import Derived.Test.YtmkanjcehhbmlaaGreatDoorDGW2
import Derived.Test.YtmkanjcehhbmlaaGreatDoorDNum
import Derived.Test.YtmkanjcehhbmlaaGreatDoorDNumAdd
import Derived.Test.YtmkanjcehhbmlaaGreatDoorDNumCmp
import Derived.Test.YtmkanjcehhbmlaaGreatDoorDNumMul
import Derived.Test.YtmkanjcehhbmlaaGreatDoorDNumOps
import Derived.Test.YtmkanjcehhbmlaaGreatDoorDNumParse
import Derived.Test.YtmkanjcehhbmlaaGreatDoorDNumText
import Derived.Test.YtmkanjcehhbmlaaGreatDoorDNumVal
import Derived.Test.YtmkanjcehhbmlaaGreatDoorDPrA4
import Derived.Test.YtmkanjcehhbmlaaGreatDoorDPrA5
import Derived.Test.YtmkanjcehhbmlaaGreatDoorDShelf
import Derived.Test.YtmkanjcehhbmlaaGreatDoorDSpec
import Derived.Test.YtmkanjcehhbmlaaGreatDoorDTab
import Derived.Test.YtmkanjcehhbmlaaGreatDoorDWLast
set_option linter.all false
section
namespace Go.Proofs.YtmkanjcehhbmlaaGreatDoor.Pr
set_option linter.unusedSimpArgs false
set_option linter.unusedVariables false
open Go.RowKit Go.Shelf Go.Proofs.YtmkanjcehhbmlaaGreatDoorW.PrintWords Go.Proofs.YtmkanjcehhbmlaaGreatDoorW.PrintLast Go.Proofs.YtmkanjcehhbmlaaGreatDoorW.PrintMore
/-- One round: the rest and the quotient's limbs. -/
def dval (xs : List Int) (r k : Nat) : Nat := (rd xs ((xs.length - 1 - k : Nat) : Int)).toNat + 1000000000 * r
def dstep (b : Nat) (xs : List Int) (st : Nat × List Int) (k : Nat) : Nat × List Int :=
  (dval xs st.1 k % b, if dval xs st.1 k < b then st.2 else st.2.set (xs.length - 1 - k) ((dval xs st.1 k / b : Nat) : Int))
def dfold (b : Nat) (xs : List Int) (pre : List Nat) : Nat × List Int := pre.foldl (dstep b xs) (0, List.replicate xs.length 0)
def cellsU (xs : List Int) : Array Value := (xs.map (Value.int .u64)).toArray
theorem dfold_snoc (b : Nat) (xs : List Int) (pre : List Nat) (k : Nat) : dfold b xs (pre ++ [k]) = dstep b xs (dfold b xs pre) k := by unfold dfold; rw [List.foldl_append]; rfl
theorem dfold_lt {b : Nat} (hb : 0 < b) (xs : List Int) (pre : List Nat) : (dfold b xs pre).1 < b ∧ (dfold b xs pre).2.length = xs.length := by
  rw [← List.reverse_reverse pre]
  generalize pre.reverse = q
  induction q with
  | nil => exact ⟨hb, by simp [dfold]⟩
  | cons k q ih =>
    rw [List.reverse_cons, dfold_snoc]
    refine ⟨Nat.mod_lt _ hb, ?_⟩
    unfold dstep
    dsimp only
    split
    · exact ih.2
    · rw [List.length_set]; exact ih.2
theorem dfold_limbs {b : Nat} (hb : 0 < b) {xs : List Int} (hx : Limbs xs) (pre : List Nat) : Limbs (dfold b xs pre).2 := by
  rw [← List.reverse_reverse pre]
  generalize pre.reverse = q
  induction q with
  | nil => exact Limbs.zeros _
  | cons k q ih =>
    rw [List.reverse_cons, dfold_snoc]
    have hl := (dfold_lt hb xs q.reverse).1
    unfold dstep
    dsimp only
    split
    · exact ih
    · refine ih.set _ ?_
      have h1 := hx.rd ((xs.length - 1 - k : Nat) : Int)
      have h2 : dval xs (dfold b xs q.reverse).1 k < 1000000000 * b := by unfold dval; omega
      have h3 : dval xs (dfold b xs q.reverse).1 k / b < 1000000000 := Nat.div_lt_of_lt_mul (by rw [Nat.mul_comm]; exact h2)
      generalize dval xs (dfold b xs q.reverse).1 k / b = u at h3 ⊢
      omega
theorem getElem_cellsU (xs : List Int) (j : Nat) (h : j < xs.length) : (cellsU xs)[j]? = some (.int .u64 (rd xs (j : Nat))) := by
  unfold cellsU
  rw [rd_nat]
  simp [List.getElem?_eq_getElem h]
theorem cell_of_row (W : World) (R : Nat) (xs : List Int) (t : TypeId) (h : W.heap[R]? = some (.cells (cellsU xs) t (0, 0))) (j : Nat) (hj : j < xs.length) : W.cell? ⟨R, j, none⟩ = some (.int .u64 (rd xs (j : Nat))) ∧ W.frozen? ⟨R, j, none⟩ = false := by
  constructor
  · simp [World.cell?, h, getElem_cellsU xs j hj]
  · simp [World.frozen?, h]
theorem row_set (W : World) (R : Nat) (xs : List Int) (t : TypeId) (h : W.heap[R]? = some (.cells (cellsU xs) t (0, 0))) (j : Nat) (v : Int) : (W.setCell ⟨R, j, none⟩ (.int .u64 v)).heap[R]? = some (.cells (cellsU (xs.set j v)) t (0, 0)) := by
  have : cellsU (xs.set j v) = (cellsU xs).setIfInBounds j (.int .u64 v) := by unfold cellsU; simp [List.map_set]
  rw [this]
  simp [World.setCell, Array.getElem?_modify, h]
theorem box_set (W : World) (B : Nat) (u v : Value) (t : TypeId) (h : W.heap[B]? = some (.cells #[u] t (0, 0))) : (W.setCell ⟨B, 0, none⟩ v).heap[B]? = some (.cells #[v] t (0, 0)) := by
  simp [World.setCell, Array.getElem?_modify, h]
theorem len_mul {v b n : Nat} (h : (limbs b).length ≤ n) (hv : v < 1000000000 * b) : (limbs v).length ≤ n + 1 := by
  refine limbs_len_le _ _ ?_
  have h1 := limbs_len b
  have h2 : ((1000000000 ^ (limbs b).length : Nat) : Int) = (1000000000 : Int) ^ (limbs b).length := by simp
  rw [← h2] at h1
  have h3 : 1000000000 ^ (limbs b).length ≤ 1000000000 ^ n := Nat.pow_le_pow_right (by omega) h
  rw [Nat.pow_succ]
  generalize 1000000000 ^ (limbs b).length = P at *
  generalize 1000000000 ^ n = Q at *
  omega
theorem madeU (n : Nat) : madeCells (Value.int .u64 0).cells (n * 1) = cellsU (List.replicate n 0) := by
  unfold madeCells cellsU
  rw [Nat.mul_one]
  apply Array.ext
  · simp
  · intro i h1 h2
    simp [Value.cells]
    have : i % 1 = 0 := Nat.mod_one i
    rw [this]
    rfl
theorem alloc_heap (w : World) (o : Obj) (k : Nat) : (w.alloc o).heap[k]? = if k = w.heap.size then some o else w.heap[k]? := by
  by_cases h : k = w.heap.size
  · subst h; rw [if_pos rfl]; exact World.alloc_heap_new w o
  · rw [if_neg h]
    rcases Nat.lt_or_ge k w.heap.size with h2 | h2
    · exact Below.heap_alloc w o k h2
    · rw [Array.getElem?_eq_none h2, Array.getElem?_eq_none (by simp; omega)]
theorem five (w : World) (o0 o1 o2 o3 o4 : Obj) : let W := ((((w.alloc o0).alloc o1).alloc o2).alloc o3).alloc o4
    W.heap.size = w.heap.size + 5 ∧ W.heap[w.heap.size]? = some o0 ∧ W.heap[w.heap.size + 1]? = some o1 ∧ W.heap[w.heap.size + 2]? = some o2 ∧ W.heap[w.heap.size + 3]? = some o3 ∧ W.heap[w.heap.size + 4]? = some o4 := by
  simp only [alloc_heap, World.size_alloc]
  refine ⟨by first | trivial | omega, ?_, ?_, ?_, ?_, ?_⟩
  all_goals (repeat' split)
  all_goals first | rfl | (exfalso; omega) | (exfalso; exact ‹¬True› trivial)
/-- What a round turns: the quotient's row and the box of the rest. -/
def Mid (N : Nat) (W W' : World) : Prop := KeepsOthers W W' ∧ Below N W W' ∧ ∀ k, k < W.heap.size → k ≠ N + 1 → k ≠ N + 3 → W'.heap[k]? = W.heap[k]?
theorem Mid.trans {N : Nat} {W W' W'' : World} (h : Mid N W W') (k : Mid N W' W'') : Mid N W W'' :=
  ⟨h.1.trans k.1, h.2.1.trans k.2.1, fun i hi h1 h2 => (k.2.2 i (Nat.lt_of_lt_of_le hi h.1.size) h1 h2).trans (h.2.2 i hi h1 h2)⟩
theorem Mid.of_below {N : Nat} {W W' : World} (h : Below W.heap.size W W') (hN : N ≤ W.heap.size) : Mid N W W' := ⟨keeps_of_below h, h.mono hN, fun k hk _ _ => h.block k hk⟩
theorem Mid.setCell {N : Nat} (W : World) (p : Addr) (hp : p.block = N + 1 ∨ p.block = N + 3) (v : Value) : Mid N W (W.setCell p v) :=
  ⟨KeepsOthers.setCell _ _ _, (Below.refl _ W).setCell (by omega) _, fun k _ h1 h2 => Below.heap_setCell _ _ _ _ (by omega)⟩
/-- The rounds' invariant. -/
structure DI (N n c m d b : Nat) (A B : Option Addr) (xs : List Int) (pre : List Nat) (W : World) : Prop where
  rest : ∃ C n' c', W.heap[N + 3]? = some (.cells #[.slice C n' c'] 63 (0, 0)) ∧ NF W (N + 4) C n' c' (dfold b xs pre).1
  row : W.heap[N + 1]? = some (.cells (cellsU (dfold b xs pre).2) 99 (0, 0))
  b0 : W.heap[N]? = some (.cells #[.slice B m d] 63 (0, 0))
  b2 : W.heap[N + 2]? = some (.cells #[.slice (some ⟨N + 1, 0, none⟩) n n] 63 (0, 0))
  b4 : W.heap[N + 4]? = some (.cells #[.slice A n c] 63 (0, 0))
theorem DI.kept {N n c m d b : Nat} {A B : Option Addr} {xs : List Int} {pre : List Nat} {W W' : World} {row : Option Nat} (h : DI N n c m d b A B xs pre W) (hg : W.grownBy W' row) (hr : ∀ r, row = some r → ∃ o : Obj, W.heap[r]? = some o ∧ o.isCells = false) : DI N n c m d b A B xs pre W' := by
  obtain ⟨⟨C, n', c', h1, h2⟩, h3, h4, h5, h6⟩ := h
  exact ⟨⟨C, n', c', box_kept h1 hg hr, h2.kept hg hr⟩, box_kept h3 hg hr, box_kept h4 hg hr, box_kept h5 hg hr, box_kept h6 hg hr⟩
/-- sort.Search over the closure: the quotient's limb. -/
theorem div_search (N : Nat) (B C : Option Addr) (m d n c b v : Nat) (w : World) (h0 : w.heap[N]? = some (.cells #[.slice B m d] 63 (0, 0))) (h3 : w.heap[N + 3]? = some (.cells #[.slice C n c] 63 (0, 0)))
    (hb : NU w B m d b) (hv : NU w C n c v) (hm : m ≤ 1000) (hn : n ≤ 2000) (hb0 : 0 < b) (hvb : v < 1000000000 * b) :
    Calls Tryz.prog 116 #[.int .i64 999999999, .func (.func 117) #[] #[.pointer (some ⟨N, 0, none⟩), .pointer (some ⟨N + 3, 0, none⟩)]] w fun e w' => e = .returned (.int .i64 ((v / b : Nat) : Int)) ∧ Below w.heap.size w w' := by
  have l0 := (Array.getElem?_eq_some_iff.1 h0).1
  have l3 := (Array.getElem?_eq_some_iff.1 h3).1
  refine (search_calls 117 #[.pointer (some ⟨N, 0, none⟩), .pointer (some ⟨N + 3, 0, none⟩)] 999999999 (fun k => decide (v < b * (k + 1))) w (enters_of Tryz.func117 (by kernel_rfl) rfl) (by decide) ?_ ?_).mono ?_
  · intro W i hW hi
    exact div1_calls N (N + 3) B C m d n c b v i W ((hW.block N l0).trans h0) ((hW.block _ l3).trans h3) (hb.below hW) (hv.below hW) hi hm hn
  · intro x y hxy hy hx
    have h1 := of_decide_eq_true hx
    refine decide_eq_true (Nat.lt_of_lt_of_le h1 (Nat.mul_le_mul_left b (by omega)))
  · rintro e w' ⟨q, rfl, hq, h1, h2, hb⟩
    refine ⟨?_, hb⟩
    have e : v / b = q := by
      have u1 : b * q ≤ v := by
        rcases Nat.eq_zero_or_pos q with h | h
        · subst h; simp
        · have := of_decide_eq_false (h1 (q - 1) (by omega))
          rw [show q - 1 + 1 = q by omega] at this
          omega
      have u2 : v < b * (q + 1) := by
        rcases Nat.lt_or_ge q 999999999 with h | h
        · exact of_decide_eq_true (h2 q (Nat.le_refl _) h)
        · rw [show q + 1 = 1000000000 by omega, Nat.mul_comm]; exact hvb
      exact Nat.div_eq_of_lt_le (by rw [Nat.mul_comm]; exact u1) (by rw [Nat.mul_comm]; exact u2)
    rw [e]
attribute [local go_sem] Oper.semAt_some
set_option maxRecDepth 100000 in
set_option maxHeartbeats 4000000 in
theorem div_walk (A B : Option Addr) (n c m d a b : Nat) (w : World) (ha : NU w A n c a) (hb : NU w B m d b) (hb0 : 0 < b) (hr : n ≤ 1000) (hr2 : m ≤ 1000) :
    Calls Tryz.prog 87 #[.slice A n c, .slice B m d] w fun e w' => ∃ C k d' D l d2, e = .returned (.tuple #[.slice C k d', .slice D l d2]) ∧ NF w' w.heap.size C k d' (lval (dfold b (limbs a) (List.range n)).2).toNat ∧ NF w' w.heap.size D l d2 (dfold b (limbs a) (List.range n)).1 ∧ Below w.heap.size w w' := by
  refine (callsIn_wide (n := 8)).1 ?_
  refine callsIn_of_wp_marks Tryz.func87 rfl trivial ?_ rfl
  simp only [Tryz.ntmps87, List.size_toArray, List.length_cons, List.length_nil, Nat.reduceAdd, Nat.reduceSub, Array.replicate_succ, Array.replicate_zero, List.push_toArray, List.append_toArray, List.nil_append, List.cons_append]
  have hmk : ∀ W : World, (Instr.makeSlice 63 (.int .i64 (n : Int)) (.int .i64 (n : Int))).run Tryz.prog W = .ok (.slice (some ⟨W.heap.size, 0, none⟩) n n) (W.alloc (.cells (cellsU (List.replicate n 0)) 99)) := fun W => by
    obtain ⟨i0, hi, hz0, hz1, hz2⟩ := info_parts info99
    have := run_make (P := Tryz.prog) W 63 99 i0 (.int .u64 0) Tryz.underlying63 hi hz0 .i64 .i64 (n : Int) (n : Int) (by omega) (Int.le_refl _) (by rw [hz2]; omega) (by omega)
    rw [this, hz1, Int.toNat_natCast, madeU]
  have HA := Lib.hid ha
  have HB := Lib.hid hb
  clear ha hb
  gi_wp2_with (refine ⟨trivial, ?_⟩; gi_at_call 110; refine (back_in _ _ trivial rfl _ _ _ _).mono ?_; rintro e w' ⟨rfl, rfl⟩)
  obtain ⟨N, hN⟩ : ∃ N, N = w.heap.size := ⟨_, rfl⟩
  obtain ⟨W0, hW0⟩ : ∃ W0, ((((w.alloc (.cells #[.slice B m d] 63)).alloc (.cells (cellsU (List.replicate n 0)) 99)).alloc (.cells #[.slice (some ⟨w.heap.size + 1, 0, none⟩) n n] 63)).alloc (.cells #[.slice none 0 0] 63)).alloc (.cells #[.slice A n c] 63) = W0 := ⟨_, rfl⟩
  rw [hW0]
  rw [← hN] at hW0 ⊢
  have hxn : n = (limbs a).length := HA.out.len
  have h5 := five w (.cells #[.slice B m d] 63) (.cells (cellsU (List.replicate n 0)) 99) (.cells #[.slice (some ⟨N + 1, 0, none⟩) n n] 63) (.cells #[.slice none 0 0] 63) (.cells #[.slice A n c] 63)
  dsimp only at h5
  rw [hW0, ← hN] at h5
  obtain ⟨hs0, g0, g1, g2, g3, g4⟩ := h5
  have hDI : DI N n c m d b A B (limbs a) [] W0 :=
    ⟨⟨none, 0, 0, g3, ⟨by show 0 = (limbs 0).length; rw [limbs_zero]; rfl, Nat.le_refl _, by show CU W0 none (limbs 0); rw [limbs_zero]; exact ⟨rfl, by simp, fun h => by simp at h⟩⟩, fun h => by omega⟩, by rw [hxn] at g1; exact g1, g0, g2, g4⟩
  have hBW : Below N w W0 := by rw [← hW0, hN]; exact (((((Below.refl _ w).alloc (Nat.le_refl _) _).alloc (by simp) _).alloc (by simp; omega) _).alloc (by simp; omega) _).alloc (by simp; omega) _
  clear hW0
  have HN := Lib.hid hN
  have HXN := Lib.hid hxn
  clear hN hxn
  refine wpIn_rangeFunc_ownF rfl (by omega) (gf := 132) (lb := #[.pointer (some ⟨N + 1 + 1 + 1 + 1, 0, none⟩)]) rfl trivial (enters_of Tryz.func132 (by kernel_rfl) rfl)
    (back_stops Fence.wide 7 trivial rfl (by omega) (N + 4) N c A (limbs a) (by rw [← HXN.out]; omega) W0 w (by omega) (by rw [← HXN.out]; exact (cell_of_box _ _ _ _ hDI.b4).1) HA.out.2.2 (by rw [HN.out]; exact Nat.le_refl _) (by omega) (by rw [← HN.out]; exact hBW)) keepAt_t (keepAt_b (by omega) (by omega)) (Below.refl _ _) (fun _ => rfl)
    (fun pre W => DI N n c m d b A B (limbs a) (pre.map Subtype.val) W ∧ Below N w W)
    (fun cc pre W => False)
    (OwnFrom.and (Own.from (fun s A B row hs hg hr => hs.kept hg hr) _) (ownFrom_below (by rw [HN.out]; exact Nat.le_refl _) (by omega)))
    (fun c => fun s W W' row h _ _ => h)
    ⟨hDI, hBW⟩
    (fun x => { tmps := #[.slice A n c, .slice B m d, undef, .pointer (some ⟨N, 0, none⟩), .slice none 0 0, .slice none 0 0, .pointer (some ⟨N + 1 + 1, 0, none⟩), .pointer (some ⟨N + 1 + 1 + 1, 0, none⟩), .int .i64 (bk (limbs a) x.1).1, .int .u64 (bk (limbs a) x.1).2, undef, .slice A n c,
      .int .i64 n, .slice (some ⟨N + 1, 0, none⟩) n n, .slice A n c, .func (.func 132) #[] #[.pointer (some ⟨N + 1 + 1 + 1 + 1, 0, none⟩)], .int .i64 (bk (limbs a) x.1).1, .int .u64 (bk (limbs a) x.1).2,
      undef, undef, undef, undef, undef, undef, undef, undef, undef, undef, undef, undef, undef, undef, undef, undef, undef, undef, undef, undef, undef, undef, undef, undef, undef, undef], defers := [] }) ?assign ?body ?done ?stop
  case assign =>
    intro l x W K hK
    gi_wp2
    exact hK
  case stop =>
    rintro D cc pre W hD hS hff
    exact hff.elim
  case done =>
    rintro D ks W hD hS ⟨hI, hB⟩ hK
    have hks : ks.map Subtype.val = List.range n := by rw [HXN.out]; exact hS
    rw [hks] at hI
    obtain ⟨⟨C, n', c', hrest, hNF⟩, hrow, hb0', hb2, hb4⟩ := hI
    have hQL := dfold_limbs hb0 (limbs_Limbs a) (List.range n)
    have hQn := (dfold_lt hb0 (limbs a) (List.range n)).2
    rw [← HXN.out] at hQn
    obtain ⟨Qf, hQf⟩ : ∃ Qf, (dfold b (limbs a) (List.range n)).2 = Qf := ⟨_, rfl⟩
    obtain ⟨rf, hrf⟩ : ∃ rf, (dfold b (limbs a) (List.range n)).1 = rf := ⟨_, rfl⟩
    rw [hQf] at hrow hQL hQn
    rw [hrf] at hNF
    have HQF := Lib.hid hQf
    have HRF := Lib.hid hrf
    clear hQf hrf hks hS
    have hs := hB.size
    rw [← HN.out] at hs
    have hlt1 : N + 1 < W.heap.size := (Array.getElem?_eq_some_iff.1 hrow).1
    have hlt3 : N + 3 < W.heap.size := (Array.getElem?_eq_some_iff.1 hrest).1
    have hltD : D < W.heap.size := (Array.getElem?_eq_some_iff.1 hK).1
    have hV : (Kd.int .u64).V 99 W W.heap.size (fun k => w.heap.size ≤ k) (.slice (some ⟨N + 1, 0, none⟩) Qf.length n) Qf := by
      have hown : W.ownsRow w.heap.size 99 1 (.slice (some ⟨N + 1, 0, none⟩) Qf.length n) Qf.length (Qf.map (Value.int .u64)) :=
        ⟨by simp, .inr ⟨N + 1, n, cellsU Qf, rfl, by rw [HN.out]; omega, hrow, by omega, by unfold maxLen; omega, by unfold cellsU; simp [hQn], by unfold cellsU; simp [List.take_of_length_le]⟩⟩
      exact Kd.R_V (Kd.R_of_own hown (fun k hk => (hown.lt k hk).1))
    have c3 := (cell_of_box _ _ _ _ hrest).1
    have c2 := (cell_of_box _ _ _ _ hb2).1
    rw [hQn] at hV
    have HVV := Lib.hid hV
    have HB := Lib.hid hB
    have HNF := Lib.hid hNF
    have HQL := Lib.hid hQL
    have HQN := Lib.hid hQn
    have hwW : w.heap.size ≤ W.heap.size := hB.size
    have hval : Hid (lval Qf = ((lval Qf).toNat : Int)) := Lib.hid (by have := lval_nonneg hQL; omega)
    clear hV hB hNF hQL hrest hrow hb0' hb2 hb4 hQn
    have htr : ∀ W', Below W.heap.size W W' → CallsIn Fence.wide 7 Tryz.prog 109 #[.slice (some ⟨N + 1, 0, none⟩) n n] W' fun e w' => ∃ C k d', e = .returned (.slice C k d') ∧ NF w' w.heap.size C k d' (lval Qf).toNat ∧ Below W'.heap.size W' w' := fun W' hW' => by
      have := trim_num (some ⟨N + 1, 0, none⟩) n (lval Qf).toNat (fun k => w.heap.size ≤ k) Qf W' w.heap.size (by rw [HQN.out]; exact Kd.V_below HVV.out hW') (fun k hk => hk) (by have := hW'.size; omega) HQL.out hval.out (by rw [HQN.out]; omega)
      rw [HQN.out] at this
      exact callsIn_wide.2 this
    have HTR := Lib.hid htr
    clear htr
    gi_wp2_with fail
    refine wpIn_mono ?_ NoPanic.imp
    gi_region_with (first
      | (refine ⟨trivial, ?_⟩; gi_at_call 109; refine (HTR.out _ ?hbel).mono ?_; (case hbel => exact (Below.refl _ W).drew); rintro e w1 ⟨C1, k1, d1, rfl, hN1, hb1⟩; have hbW1 : Below W.heap.size W w1 := ((Below.refl _ W).drew).trans (hb1.mono (by simp)); have h13 := (hbW1.cell (p := ⟨N + 3, 0, none⟩) hlt3).trans c3))
    all_goals refine NoPanic.normal ?_
    all_goals gi_wp2
    all_goals have hK1 : w1.heap[D]? = some (.deferred (some [])) := (hbW1.block D hltD).trans hK
    all_goals refine ⟨by simp [Act.put], .inl ⟨_, _, rfl, run_takeDeferred hK1, ?_⟩⟩
    all_goals refine ⟨.tuple #[.slice C1 k1 d1, .slice C n' c'], by simp [results, Tryz.f87, go_sem, Act.put], ⟨C1, k1, d1, C, n', c', rfl, ?_, ?_, ?_⟩⟩
    all_goals first
      | (rw [HQF.out]; exact hN1.kept (grownBy_putObj' _ D _) (fun r e => by cases e; exact ⟨_, hK1, rfl⟩))
      | (rw [HRF.out]; exact ((HNF.out.below hbW1).lower (by have := HN.out; omega)).kept (grownBy_putObj' _ D _) (fun r e => by cases e; exact ⟨_, hK1, rfl⟩))
      | exact ((HB.out.mono (by rw [HN.out]; exact Nat.le_refl _)).trans (hbW1.mono hwW)).trans (belowK_b (w := w) (Nat.le_refl _) w1 D _ _ (by have := HN.out; omega) hK1 rfl rfl)
  case body =>
    rintro l pre ⟨k, hk⟩ W ⟨hI, hB⟩ hpl
    obtain ⟨⟨C, n', c', hrest, hNF⟩, hrow, hb0', hb2, hb4⟩ := hI
    have hkx : k < n := by rw [HXN.out]; exact hk
    obtain ⟨r, Qs, hst⟩ : ∃ r Qs, dfold b (limbs a) (pre.map Subtype.val) = (r, Qs) := ⟨_, _, rfl⟩
    have hrb := dfold_lt hb0 (limbs a) (pre.map Subtype.val)
    rw [hst] at hNF hrow hrb
    dsimp only at hNF hrow hrb
    obtain ⟨hrlt, hQl⟩ := hrb
    rw [← HXN.out] at hQl
    obtain ⟨i, hi⟩ : ∃ i : Nat, i = n - 1 - k := ⟨_, rfl⟩
    have hin : i < n := by omega
    have e1 : bk (limbs a) k = ((i : Int), rd (limbs a) (i : Nat)) := by rw [hi, HXN.out]; rfl
    have hxi := (limbs_Limbs a).rd (i : Nat)
    obtain ⟨x, hx⟩ : ∃ x : Nat, rd (limbs a) (i : Nat) = x := ⟨(rd (limbs a) (i : Nat)).toNat, by omega⟩
    have hx9 : x < 1000000000 := by omega
    have hdv : dval (limbs a) r k = x + 1000000000 * r := by unfold dval; rw [← HXN.out, ← hi, hx]; rfl
    have hstep : dfold b (limbs a) ((pre ++ [(⟨k, hk⟩ : Rn (limbs a))]).map Subtype.val) = ((x + 1000000000 * r) % b, if x + 1000000000 * r < b then Qs else Qs.set i (((x + 1000000000 * r) / b : Nat) : Int)) := by
      rw [List.map_append]; show dfold b (limbs a) (_ ++ [k]) = _
      rw [dfold_snoc, hst]; unfold dstep; rw [hdv, ← HXN.out, ← hi]
    have hv9 : x + 1000000000 * r < 1000000000 * b := by omega
    rw [e1, hx]
    dsimp only
    have HST := Lib.hid hstep
    have HI := Lib.hid hi
    clear hst hdv hi e1 hx hxi hstep
    have hs := hB.size
    rw [← HN.out] at hs
    have hlt0 : N < W.heap.size := (Array.getElem?_eq_some_iff.1 hb0').1
    have hlt1 : N + 1 < W.heap.size := (Array.getElem?_eq_some_iff.1 hrow).1
    have hlt2 : N + 2 < W.heap.size := (Array.getElem?_eq_some_iff.1 hb2).1
    have hlt3 : N + 3 < W.heap.size := (Array.getElem?_eq_some_iff.1 hrest).1
    have hlt4 : N + 4 < W.heap.size := (Array.getElem?_eq_some_iff.1 hb4).1
    have hlr : (limbs r).length ≤ 1000 := by
      have := limbs_len_mono (Nat.le_of_lt hrlt)
      rw [← HB.out.len] at this
      omega
    have H0 := Lib.hid hb0'
    have H1 := Lib.hid hrow
    have H2 := Lib.hid hb2
    have H3 := Lib.hid hrest
    have H4 := Lib.hid hb4
    have HW := Lib.hid hB
    have HF := Lib.hid hNF
    have c3 := (cell_of_box _ _ _ _ (Below.heap_alloc W (.cells #[.int .u64 (x : Int)] 99) (N + 3) hlt3 ▸ hrest)).1
    clear hb0' hrow hb2 hrest hb4 hB hNF
    obtain ⟨v, hv⟩ : ∃ v, x + 1000000000 * r = v := ⟨_, rfl⟩
    rw [hv] at hv9
    have hlv : lval ((x : Int) :: limbs r) = (v : Int) := by rw [lval, lval_limbs]; omega
    have HLV := Lib.hid hlv
    have HV := Lib.hid hv
    have HLim : Hid (Limbs ((x : Int) :: limbs r)) := Lib.hid (Limbs.mk (by omega) (limbs_Limbs r))
    have hmb := HB.out.len
    have hlenv : (limbs v).length ≤ 1001 := len_mul (by rw [← HB.out.len]; exact hr2) hv9
    have HMB := Lib.hid hmb
    clear hlv hv hmb
    have hNle : w.heap.size ≤ N := by rw [HN.out]; exact Nat.le_refl _
    obtain ⟨z, hz⟩ : ∃ z, cmp3 (v : Int) b = z := ⟨_, rfl⟩
    have HZ := Lib.hid hz
    by_cases hvb : v < b
    · have hz1 : z < 0 := by rw [← hz, cmp3_lt (by omega)]; omega
      clear hz
      gi_wp2_with (first
        | (gi_at_builtin; refine wpListIn_append_x W rfl (.tmp 19) (.tmp 20) rfl (x : Int) (limbs r) C n' c' rfl rfl HF.out.len HF.out.nu.2.2 (by omega) ?_; intro A1 c1 w1 hV1 hb1)
        | (refine ⟨trivial, ?_⟩; gi_at_call 109; refine (CallsIn.inRound l (callsIn_wide.2 (trim_num A1 c1 v _ _ w1 W.heap.size hV1 (fun k hk => hk) hb1.size HLim.out HLV.out (by rw [List.length_cons]; omega)))).mono ?_; rintro e w2 ⟨C2, n2, c2, rfl, hN2, hb2⟩; have hbW2 := hb1.trans (hb2.mono hb1.size); have q3 := (hbW2.block (N + 3) hlt3).trans H3.out; have q0 := (hbW2.block N hlt0).trans H0.out; have c3' := (cell_of_box _ _ _ _ q3).1; have f3' := (cell_of_box _ _ _ _ q3).2; have c0' := (cell_of_box _ _ _ _ q0).1; have HN2 := Lib.hid hN2; have HQ3 := Lib.hid q3; have HB2 := Lib.hid hbW2; have hl2 : n2 ≤ 1001 := (by rw [hN2.len]; exact hlenv); have HN3 := Lib.hid (hN2.setCell (by omega) ⟨N + 3, 0, none⟩ hlt3 (.slice C2 n2 c2)); have HBw3 := Lib.hid (((HW.out.mono hNle).trans (hbW2.mono (by omega))).setCell (p := ⟨N + 3, 0, none⟩) (by show w.heap.size ≤ N + 3; omega) (.slice C2 n2 c2)); clear q3 q0 hN2 hbW2)
        | (refine ⟨trivial, ?_⟩; gi_at_call 90; refine (CallsIn.inRound l (callsIn_wide.2 (cmp_num C2 B n2 c2 m d v b _ HN3.out.nu (HB.out.below HBw3.out) (by omega) (by omega)))).mono ?_; rintro e w4 ⟨rfl, hb4⟩; rw [HZ.out]))
      have s2 := HB2.out.size
      have s3 : (w2.setCell ⟨N + 3, 0, none⟩ (.slice C2 n2 c2)).heap.size = w2.heap.size := by simp
      have hm4 : Mid N W w4 := ((Mid.of_below HB2.out (by omega)).trans (Mid.setCell w2 ⟨N + 3, 0, none⟩ (.inr rfl) _)).trans (Mid.of_below hb4 (by omega))
      have hr4 : w4.heap[N + 3]? = some (.cells #[.slice C2 n2 c2] 63 (0, 0)) := (hb4.block _ (by rw [s3]; omega)).trans (box_set w2 _ _ _ _ HQ3.out)
      have hq4 : w4.heap[N + 1]? = some (.cells (cellsU Qs) 99 (0, 0)) := (hb4.block _ (by rw [s3]; omega)).trans ((Below.heap_setCell w2 ⟨N + 3, 0, none⟩ _ _ (by show N + 1 ≠ N + 3; omega)).trans ((HB2.out.block _ hlt1).trans H1.out))
      refine ⟨hm4.1, ⟨hm4.2.2 (N + 4) hlt4 (by omega) (by omega), hm4.2.1⟩, ⟨⟨C2, n2, c2, hr4, ?_⟩, ?_, (hm4.2.2 N hlt0 (by omega) (by omega)).trans H0.out, (hm4.2.2 (N + 2) hlt2 (by omega) (by omega)).trans H2.out, (hm4.2.2 (N + 4) hlt4 (by omega) (by omega)).trans H4.out⟩, HW.out.trans hm4.2.1⟩
      · have := HST.out
        rw [HV.out, if_pos hvb, Nat.mod_eq_of_lt hvb] at this
        rw [this]
        exact (HN3.out.below hb4).lower (by omega)
      · have := HST.out
        rw [HV.out, if_pos hvb, Nat.mod_eq_of_lt hvb] at this
        rw [this]
        exact hq4
    · have hz1 : ¬ z < 0 := by
        rw [← hz]
        rcases Nat.lt_or_ge b v with h | h
        · rw [cmp3_gt (by omega)]; omega
        · rw [show v = b by omega, cmp3_self]; omega
      clear hz
      obtain ⟨q, hq⟩ : ∃ q, v / b = q := ⟨_, rfl⟩
      have hq1 : b * q ≤ v := by rw [← hq]; exact Nat.mul_div_le v b
      have hq2 : q < 1000000000 := by rw [← hq]; exact Nat.div_lt_of_lt_mul (by rw [Nat.mul_comm]; exact hv9)
      have hq3 : 0 < q := by rw [← hq]; exact Nat.div_pos (by omega) hb0
      have hq4 : v - b * q = v % b := by rw [← hq]; have := Nat.div_add_mod v b; omega
      have HQ := Lib.hid hq
      have HQ1 := Lib.hid hq1
      have HQ4 := Lib.hid hq4
      have HMUL : Hid ((limbs (b * q)).length ≤ 1001) := Lib.hid (mul_len (by have := HMB.out; omega) hq2)
      clear hq hq1 hq4
      gi_wp2_with (first
        | (gi_at_builtin; refine wpListIn_append_x W rfl (.tmp 19) (.tmp 20) rfl (x : Int) (limbs r) C n' c' rfl rfl HF.out.len HF.out.nu.2.2 (by omega) ?_; intro A1 c1 w1 hV1 hb1)
        | (refine ⟨trivial, ?_⟩; gi_at_call 109; refine (CallsIn.inRound l (callsIn_wide.2 (trim_num A1 c1 v _ _ w1 W.heap.size hV1 (fun k hk => hk) hb1.size HLim.out HLV.out (by rw [List.length_cons]; omega)))).mono ?_; rintro e w2 ⟨C2, n2, c2, rfl, hN2, hb2⟩; have hbW2 := hb1.trans (hb2.mono hb1.size); have q3 := (hbW2.block (N + 3) hlt3).trans H3.out; have q0 := (hbW2.block N hlt0).trans H0.out; have c3' := (cell_of_box _ _ _ _ q3).1; have f3' := (cell_of_box _ _ _ _ q3).2; have c0' := (cell_of_box _ _ _ _ q0).1; have HN2 := Lib.hid hN2; have HQ3 := Lib.hid q3; have HB2 := Lib.hid hbW2; have hl2 : n2 ≤ 1001 := (by rw [hN2.len]; exact hlenv); have HN3 := Lib.hid (hN2.setCell (by omega) ⟨N + 3, 0, none⟩ hlt3 (.slice C2 n2 c2)); have HBw3 := Lib.hid (((HW.out.mono hNle).trans (hbW2.mono (by omega))).setCell (p := ⟨N + 3, 0, none⟩) (by show w.heap.size ≤ N + 3; omega) (.slice C2 n2 c2)); clear q3 q0 hN2 hbW2)
        | (refine ⟨trivial, ?_⟩; gi_at_call 90; refine (CallsIn.inRound l (callsIn_wide.2 (cmp_num C2 B n2 c2 m d v b _ HN3.out.nu (HB.out.below HBw3.out) (by omega) (by omega)))).mono ?_; rintro e w4 ⟨rfl, hb4⟩; rw [HZ.out]))
      refine ⟨trivial, ?_⟩
      gi_at_call 116
      have s2 := HB2.out.size
      have s3 : (w2.setCell ⟨N + 3, 0, none⟩ (.slice C2 n2 c2)).heap.size = w2.heap.size := by simp
      have s4 := hb4.size
      have hm4 : Mid N W w4 := ((Mid.of_below HB2.out (by omega)).trans (Mid.setCell w2 ⟨N + 3, 0, none⟩ (.inr rfl) _)).trans (Mid.of_below hb4 (by omega))
      have hr4 : w4.heap[N + 3]? = some (.cells #[.slice C2 n2 c2] 63 (0, 0)) := (hb4.block _ (by rw [s3]; omega)).trans (box_set w2 _ _ _ _ HQ3.out)
      have hq4 : w4.heap[N + 1]? = some (.cells (cellsU Qs) 99 (0, 0)) := (hb4.block _ (by rw [s3]; omega)).trans ((Below.heap_setCell w2 ⟨N + 3, 0, none⟩ _ _ (by show N + 1 ≠ N + 3; omega)).trans ((HB2.out.block _ hlt1).trans H1.out))
      refine (CallsIn.inRound l (callsIn_wide.2 (div_search N B C2 m d n2 c2 b v w4 ((hm4.2.2 N hlt0 (by omega) (by omega)).trans H0.out) hr4 ((HB.out.below HBw3.out).below hb4) (HN3.out.nu.below hb4) hr2 (by omega) hb0 hv9))).mono ?_
      rintro e w5 ⟨rfl, hb5⟩
      rw [HQ.out]
      have s5 := hb5.size
      have hm5 : Mid N W w5 := hm4.trans (Mid.of_below hb5 (by omega))
      have hr5 : w5.heap[N + 3]? = some (.cells #[.slice C2 n2 c2] 63 (0, 0)) := (hb5.block _ (by omega)).trans hr4
      have hq5 : w5.heap[N + 1]? = some (.cells (cellsU Qs) 99 (0, 0)) := (hb5.block _ (by omega)).trans hq4
      have hc5 := cell_of_row w5 (N + 1) Qs _ hq5 i (by rw [hQl]; exact hin)
      have hi5 := hc5.1
      have hf5 := hc5.2
      have h25 := (cell_of_box _ _ _ _ ((hm5.2.2 (N + 2) hlt2 (by omega) (by omega)).trans H2.out)).1
      have HM5 := Lib.hid hm5
      have HR5 := Lib.hid hr5
      have HQ5 := Lib.hid hq5
      have HB4 := Lib.hid hb4
      have HB5 := Lib.hid hb5
      clear hm5 hr5 hq5 hb4 hb5 hm4 hr4 hq4 hc5
      gi_wp2_with fail
      obtain ⟨w6, hw6⟩ : ∃ w6, w5.setCell ⟨N + 1, i, none⟩ (.int .u64 q) = w6 := ⟨_, rfl⟩
      rw [hw6]
      have s6 : w6.heap.size = w5.heap.size := by rw [← hw6]; simp
      have hm6 : Mid N W w6 := by rw [← hw6]; exact HM5.out.trans (Mid.setCell w5 ⟨N + 1, i, none⟩ (.inl rfl) _)
      have hr6 : w6.heap[N + 3]? = some (.cells #[.slice C2 n2 c2] 63 (0, 0)) := by rw [← hw6]; exact (Below.heap_setCell w5 ⟨N + 1, i, none⟩ _ _ (by show N + 3 ≠ N + 1; omega)).trans HR5.out
      have hq6 : w6.heap[N + 1]? = some (.cells (cellsU (Qs.set i (q : Int))) 99 (0, 0)) := by rw [← hw6]; exact row_set w5 (N + 1) Qs _ HQ5.out i q
      have hN6 : NF w6 W.heap.size C2 n2 c2 v := by rw [← hw6]; exact ((HN3.out.below HB4.out).below HB5.out).setCell (by omega) ⟨N + 1, i, none⟩ hlt1 _
      have hBw6 : Below w.heap.size w w6 := by
        rw [← hw6]
        exact ((HBw3.out.trans (HB4.out.mono (by have := HBw3.out.size; omega))).trans (HB5.out.mono (by have := HBw3.out.size; omega))).setCell (p := ⟨N + 1, i, none⟩) (by show w.heap.size ≤ N + 1; omega) _
      have hg6 := cell_of_box _ _ _ _ hr6
      have hc63 := hg6.1
      have hf63 := hg6.2
      have hc60 := (cell_of_box _ _ _ _ ((hm6.2.2 N hlt0 (by omega) (by omega)).trans H0.out)).1
      have hfin : ∀ (w9 : World) C4 k4 d4, Below w6.heap.size w6 w9 → NF w9 w6.heap.size C4 k4 d4 (v - b * q) → KeepsOthers W (w9.setCell ⟨N + 3, 0, none⟩ (.slice C4 k4 d4)) ∧ KeepAt (N + 4) N W (w9.setCell ⟨N + 3, 0, none⟩ (.slice C4 k4 d4)) ∧ DI N n c m d b A B (limbs a) ((pre ++ [(⟨k, hk⟩ : Rn (limbs a))]).map Subtype.val) (w9.setCell ⟨N + 3, 0, none⟩ (.slice C4 k4 d4)) ∧ Below N w (w9.setCell ⟨N + 3, 0, none⟩ (.slice C4 k4 d4)) := by
        intro w9 C4 k4 d4 hb9 hN9
        have s9 := hb9.size
        have hm9 : Mid N W (w9.setCell ⟨N + 3, 0, none⟩ (.slice C4 k4 d4)) := (hm6.trans (Mid.of_below hb9 (by omega))).trans (Mid.setCell w9 ⟨N + 3, 0, none⟩ (.inr rfl) _)
        have hst9 := HST.out
        rw [HV.out, if_neg hvb, HQ.out, ← HQ4.out] at hst9
        have hk4 : k4 ≤ 1001 := by
          rw [hN9.len]
          exact Nat.le_trans (limbs_len_mono (Nat.sub_le v (b * q))) hlenv
        refine ⟨hm9.1, ⟨hm9.2.2 (N + 4) hlt4 (by omega) (by omega), hm9.2.1⟩, ⟨⟨C4, k4, d4, box_set w9 _ _ _ _ ((hb9.block _ (by omega)).trans hr6), ?_⟩, ?_, (hm9.2.2 N hlt0 (by omega) (by omega)).trans H0.out, (hm9.2.2 (N + 2) hlt2 (by omega) (by omega)).trans H2.out, (hm9.2.2 (N + 4) hlt4 (by omega) (by omega)).trans H4.out⟩, HW.out.trans hm9.2.1⟩
        · rw [hst9]
          exact (hN9.setCell (by omega) ⟨N + 3, 0, none⟩ (by show N + 3 < w6.heap.size; omega) _).lower (by omega)
        · rw [hst9]
          exact (Below.heap_setCell w9 ⟨N + 3, 0, none⟩ _ _ (by show N + 1 ≠ N + 3; omega)).trans ((hb9.block _ (by omega)).trans hq6)
      have HFIN := Lib.hid hfin
      have HN6 := Lib.hid hN6
      have HBw6 := Lib.hid hBw6
      have hlt60 : N < w6.heap.size := by omega
      have hlt63 : N + 3 < w6.heap.size := by omega
      have HONE := Lib.hid (fun w => one_num w q hq3 hq2)
      clear hfin hN6 hBw6 hq6 hr6 hm6 hw6 hg6 hi5 hf5 h25 c3' f3' c0'
      have HE := Lib.hid (show IntKind.u64.wrap (q : Int) = (q : Int) by rw [IntKind.wrap_u64]; omega)
      have hle6 : w.heap.size ≤ w6.heap.size := by omega
      have hqlen := HMUL.out
      have HS6 := Lib.hid s6
      have HQL := Lib.hid hqlen
      clear s6 hqlen
      gi_region_with (first
        | (refine ⟨trivial, ?_⟩; gi_at_call 118; rw [HE.out]; with_reducible refine (CallsIn.inRound l (callsIn_wide.2 (mul_num B _ m d 1 1 b q _ ?na ?nb ?nc ?nd))).mono ?_; (case na => exact HB.out.below ((HBw6.out.alloc hle6 _).drew)); (case nb => exact (HONE.out w6).below (Below.drew (Below.refl _ _))); (case nc => omega); (case nd => omega); rintro e w7 ⟨C7, k7, d7, rfl, hN7, hb7⟩; have hb67 : Below w6.heap.size w6 w7 := (((Below.refl _ w6).alloc (Nat.le_refl _) _).drew).trans (hb7.mono (by simp)); have h73 := (hb67.cell (p := ⟨N + 3, 0, none⟩) hlt63).trans hc63; have h70 := (hb67.cell (p := ⟨N, 0, none⟩) hlt60).trans hc60)
        | (refine ⟨trivial, ?_⟩; gi_at_call 91; with_reducible refine (CallsIn.inRound l (callsIn_wide.2 (sub_num C2 C7 n2 c2 k7 d7 v (b * q) w7 (HN6.out.nu.below hb67) hN7.nu HQ1.out ?nc ?nd))).mono ?_; (case nc => omega); (case nd => rw [hN7.len]; have := HQL.out; omega); rintro e w8 ⟨C8, k8, d8, rfl, hN8, hb8⟩; have hb68 := hb67.trans (hb8.mono hb67.size); have h83 := (hb68.cell (p := ⟨N + 3, 0, none⟩) hlt63).trans hc63; have f83 := (hb68.frozen (p := ⟨N + 3, 0, none⟩) hlt63).trans hf63))
      all_goals gi_wp2
      all_goals exact HFIN.out w8 C8 k8 d8 hb68 (hN8.lower hb67.size)
end Go.Proofs.YtmkanjcehhbmlaaGreatDoor.Pr
end
