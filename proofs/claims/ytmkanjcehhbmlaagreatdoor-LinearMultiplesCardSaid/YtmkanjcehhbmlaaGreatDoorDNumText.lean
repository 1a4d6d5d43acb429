/- The contract of natural.number.text. -/
import Derived.Outline
import Derived.Lib.BufferKept
import Derived.Test.YtmkanjcehhbmlaaGreatDoorDBuild
import Derived.Test.YtmkanjcehhbmlaaGreatDoorDFmt
import Derived.Test.YtmkanjcehhbmlaaGreatDoorDGW
import Derived.Test.YtmkanjcehhbmlaaGreatDoorDNum
import Derived.Test.YtmkanjcehhbmlaaGreatDoorDShelf
import Derived.Test.YtmkanjcehhbmlaaGreatDoorDSpec
import Derived.Test.YtmkanjcehhbmlaaGreatDoorDTab
import Derived.Test.YtmkanjcehhbmlaaGreatDoorDWLast
set_option linter.all false
section
namespace Go.Proofs.YtmkanjcehhbmlaaGreatDoor.Pr
set_option linter.unusedSimpArgs false
set_option linter.unusedVariables false
open Go.RowKit Go.Shelf Go.Proofs.YtmkanjcehhbmlaaGreatDoorW.PrintWords Go.Proofs.YtmkanjcehhbmlaaGreatDoorW.PrintLast Go.Proofs.YtmkanjcehhbmlaaGreatDoorW.PrintMore
theorem grownBy_below {W W' : World} (h : Below W.heap.size W W') : W.grownBy W' none := ⟨h.os, h.tape, h.output, h.size, fun k hk _ => h.block k hk⟩
theorem cells_ne {W : World} {g r : Nat} {c : Array Value} {t : TypeId} {z : Nat × Nat} {o : Obj} (hg : W.heap[g]? = some (.cells c t z)) (hr : W.heap[r]? = some o) (ho : o.isCells = false) : g ≠ r := by
  rintro rfl
  rw [hg] at hr
  cases Option.some.inj hr
  cases ho
/-- A builder stands where nothing but blocks that are no cells are turned. -/
theorem isBuilderF_kept {T e : TypeId} {B b : Nat} {bs : List Value} {W W' : World} {row : Option Nat} (h : Lib.IsBuilderF T e B b bs W) (hg : W.grownBy W' row) (hr : ∀ r, row = some r → ∃ o : Obj, W.heap[r]? = some o ∧ o.isCells = false) : Lib.IsBuilderF T e B b bs W' := by
  have aux : ∀ p, Lib.BuilderAtF T e B b p bs W → Lib.BuilderAtF T e B b p bs W' := by
    intro p h
    have hlt := h.lt
    obtain ⟨hB, v, hb, hown, hne⟩ := h
    refine ⟨hB, v, ?_, hown.kept hg ?_, hne⟩
    · refine (hg.block b hlt ?_).trans hb
      rintro e
      obtain ⟨o, ho, hc⟩ := hr b e.symm
      exact cells_ne hb ho hc rfl
    · rcases hown.2 with ⟨rfl, _⟩ | ⟨g, cap, cur, fz, rfl, _, hgb, _⟩
      · exact .inl rfl
      · refine .inr ?_
        rintro e
        obtain ⟨o, ho, hc⟩ := hr g e.symm
        exact cells_ne hgb ho hc rfl
  exact h.elim (fun x => .inl (aux _ x)) (fun x => .inr (aux _ x))
theorem isBuilderF_below {T e : TypeId} {B b : Nat} {bs : List Value} {W W' : World} (h : Lib.IsBuilderF T e B b bs W) (hg : Below W.heap.size W W') : Lib.IsBuilderF T e B b bs W' := isBuilderF_kept h (grownBy_below hg) (fun r e => by cases e)
theorem isBuilderF_is {T e : TypeId} {B b : Nat} {bs : List Value} {W : World} (h : Lib.IsBuilderF T e B b bs W) : ∃ c z, W.heap[b]? = some (.cells c T z) := by
  rcases h with ⟨_, v, hb, _⟩ | ⟨_, v, hb, _⟩ <;> exact ⟨_, _, hb⟩
theorem isBuilderF_lt {T e : TypeId} {B b : Nat} {bs : List Value} {W : World} (h : Lib.IsBuilderF T e B b bs W) : b < W.heap.size := h.elim (·.lt) (·.lt)
/-- What the builder's calls keep, in the words of the range's law. -/
theorem keeps_of_others {e : TypeId} {b : Nat} {c : Array Value} {T : TypeId} {z : Nat × Nat} {W W' : World} {B : Nat} (hb : W.heap[b]? = some (.cells c T z)) (h : Lib.OthersKept e (some b) W W') (hs : Below B W W') : KeepsOthers W W' :=
  ⟨hs.size, fun k o hk ho => h k o hk (by rintro e; cases e; exact cells_ne hb hk ho rfl) (by rintro c fz rfl; cases ho)⟩
theorem oth_below (W W' : World) (e : TypeId) (b : Option Nat) (h : Below W.heap.size W W') : Lib.OthersKept e b W W' := fun k o hk _ _ => (h.block k (Array.getElem?_eq_some_iff.1 hk).1).trans hk
theorem keeps_of_below {W W' : World} (h : Below W.heap.size W W') : KeepsOthers W W' := ⟨h.size, fun k o hk _ => (h.block k (Array.getElem?_eq_some_iff.1 hk).1).trans hk⟩
def dl (u : Int) : List UInt8 := Sp.decL u.toNat
def padZ (u : Int) : List UInt8 := Lib.repeatL [48] (9 - (dl u).length)
/-- One limb: padded, unless it is the top one. -/
def limbT (xs : List Int) (k : Nat) : List UInt8 := (if xs.length - 1 - k < xs.length - 1 then padZ (rd xs ((xs.length - 1 - k : Nat) : Int)) else []) ++ dl (rd xs ((xs.length - 1 - k : Nat) : Int))
def tkL (xs : List Int) (pre : List Nat) : List UInt8 := pre.foldl (fun acc k => acc ++ limbT xs k) []
def textL (xs : List Int) : List UInt8 := if xs.length = 0 then [48] else tkL xs (List.range xs.length)
def textF (xs : List Int) : ByteArray × Int := if (textL xs).length ≤ 300 then (⟨(textL xs).toArray⟩, 0) else (⟨#[]⟩, 2)
theorem nDigits_le9 (u : Nat) (h : u < 1000000000) : Lib.nDigits u ≤ 9 := by
  have key : ∀ k u, u < 10 ^ (k + 1) → Lib.nDigits u ≤ k + 1 := by
    intro k
    induction k with
    | zero => intro u hu; rw [Lib.nDigits_small (by omega)]; omega
    | succ k ih =>
      intro u hu
      by_cases h1 : u < 10
      · rw [Lib.nDigits_small h1]; omega
      · rw [Lib.nDigits_big h1]
        have := ih (u / 10) (by rw [Nat.div_lt_iff_lt_mul (by omega)]; rw [Nat.pow_succ] at hu; omega)
        omega
  exact key 8 u (by omega)
theorem dl_le {u : Int} (h : u < 1000000000) : (dl u).length ≤ 9 := by
  unfold dl
  rw [show Sp.decL u.toNat = Lib.decDigits u.toNat from rfl, Lib.decDigits_length]
  exact nDigits_le9 _ (by omega)
theorem limbT_le {xs : List Int} (h : Limbs xs) (k : Nat) : (limbT xs k).length ≤ 18 := by
  have := dl_le (h.rd ((xs.length - 1 - k : Nat) : Int)).2
  unfold limbT padZ
  rw [List.length_append]
  split
  · rw [Lib.repeatL_length]; simp; omega
  · simp; omega
theorem tkL_snoc (xs : List Int) (pre : List Nat) (k : Nat) : tkL xs (pre ++ [k]) = tkL xs pre ++ limbT xs k := by unfold tkL; rw [List.foldl_append]; rfl
theorem tkL_le {xs : List Int} (h : Limbs xs) (pre : List Nat) : (tkL xs pre).length ≤ 18 * pre.length := by
  rw [← List.reverse_reverse pre]
  generalize pre.reverse = q
  induction q with
  | nil => simp [tkL]
  | cons k q ih => rw [List.reverse_cons, tkL_snoc, List.length_append]; have := limbT_le h k; simp at ih ⊢; omega
attribute [local go_sem] Oper.semAt_some
theorem box_kept {W W' : World} {B : Nat} {c : Array Value} {t : TypeId} {z : Nat × Nat} {row : Option Nat} (h : W.heap[B]? = some (.cells c t z)) (hg : W.grownBy W' row) (hr : ∀ r, row = some r → ∃ o : Obj, W.heap[r]? = some o ∧ o.isCells = false) : W'.heap[B]? = some (.cells c t z) := by
  refine (hg.block B (Array.getElem?_eq_some_iff.1 h).1 ?_).trans h
  rintro e
  obtain ⟨o, ho, hc⟩ := hr B e.symm
  exact cells_ne h ho hc rfl
/-- The builder after one limb. -/
theorem strCells_app (l m : List UInt8) : Lib.byteCells l ++ Lib.strCells ⟨m.toArray⟩ = Lib.byteCells (l ++ m) := by simp [Lib.byteCells, Lib.strCells]
set_option maxRecDepth 100000 in
set_option maxHeartbeats 4000000 in
theorem text_nil (A : Option Addr) (c : Nat) (w : World) :
    Calls Tryz.prog 86 #[.slice A 0 c] w fun e w' => e = .returned (.tuple #[.string ⟨#[48]⟩, .int .i64 0]) ∧ Below w.heap.size w w' := by
  go_enter Tryz.func86, Tryz.ntmps86
  go_wp2
  go_ret2
  exact ⟨rfl, (Below.refl _ w).alloc (Nat.le_refl _) _⟩
set_option maxRecDepth 100000 in
set_option maxHeartbeats 4000000 in
theorem text_pos (A : Option Addr) (c : Nat) (xs : List Int) (w : World) (hTab : Tab w) (hx : CU w A xs) (hL : Limbs xs) (h0 : 0 < xs.length) (hr : xs.length ≤ 100000) :
    Calls Tryz.prog 86 #[.slice A xs.length c] w fun e w' => e = .returned (.tuple #[.string (textF xs).1, .int .i64 (textF xs).2]) ∧ Below w.heap.size w w' := by
  refine (callsIn_wide (n := 6)).1 ?_
  refine callsIn_of_wp_marks Tryz.func86 rfl trivial ?_ rfl
  simp only [Tryz.ntmps86, List.size_toArray, List.length_cons, List.length_nil, Nat.reduceAdd, Nat.reduceSub, Array.replicate_succ, Array.replicate_zero, List.push_toArray, List.append_toArray, List.nil_append, List.cons_append]
  have hz : ((xs.length : Int) == 0) = false := by rw [beq_eq_false_iff_ne]; omega
  have HT := Lib.hid hTab
  have HL := Lib.hid hL
  have HX := Lib.hid hx
  clear hTab hL hx
  gi_wp2_with (refine ⟨trivial, ?_⟩; gi_at_call 110; refine (back_in _ _ trivial rfl _ _ _ _).mono ?_; rintro e w' ⟨rfl, rfl⟩)
  obtain ⟨W0, hW0⟩ : ∃ W0, ((w.alloc (.cells #[.slice A xs.length c] 63)).alloc (.cells #[.pointer none, .slice none 0 0] 108)).alloc (.cells #[.slice A xs.length c] 63) = W0 := ⟨_, rfl⟩
  have hs0 : W0.heap.size = w.heap.size + 3 := by rw [← hW0]; simp
  have hB0 : W0.heap[w.heap.size]? = some (.cells #[.slice A xs.length c] 63 (0, 0)) := by
    rw [← hW0]; exact ((Below.heap_alloc _ _ _ (by simp; omega)).trans (Below.heap_alloc _ _ _ (by simp))).trans (World.alloc_heap_new w _)
  have hB2 : W0.heap[w.heap.size + 1 + 1]? = some (.cells #[.slice A xs.length c] 63 (0, 0)) := by
    rw [← hW0]; have := World.alloc_heap_new ((w.alloc (.cells #[.slice A xs.length c] 63)).alloc (.cells #[.pointer none, .slice none 0 0] 108)) (.cells #[.slice A xs.length c] 63); rwa [World.size_alloc, World.size_alloc] at this
  have hBW : Below w.heap.size w W0 := by rw [← hW0]; exact (((Below.refl _ w).alloc (Nat.le_refl _) _).alloc (by simp) _).alloc (by simp; omega) _
  have hF0 : Lib.IsBuilderF 108 5 (w.heap.size + 1) (w.heap.size + 1) [] W0 := by
    have := (Lib.IsBuilderF.of (Lib.fresh_isBuilder 108 5 (w.alloc (.cells #[.slice A xs.length c] 63)))).alloc (.cells #[.slice A xs.length c] 63)
    rw [World.size_alloc] at this
    rw [← hW0]; exact this
  rw [hW0]
  clear hW0
  refine wpIn_rangeFunc_ownF rfl (by omega) (gf := 132) (lb := #[.pointer (some ⟨w.heap.size + 1 + 1, 0, none⟩)]) rfl trivial (enters_of Tryz.func132 (by kernel_rfl) rfl)
    (back_stops Fence.wide 5 trivial rfl (by omega) (w.heap.size + 1 + 1) w.heap.size c A xs hr W0 w (by omega) (cell_of_box _ _ _ _ hB2).1 HX.out (Nat.le_refl _) (by omega) hBW) keepAt_t (keepAt_b (by omega) (by omega)) (Below.refl _ _) (fun _ => rfl)
    (fun pre W => (Lib.IsBuilderF 108 5 (w.heap.size + 1) (w.heap.size + 1) (Lib.byteCells (tkL xs (pre.map Subtype.val))) W ∧ W.heap[w.heap.size]? = some (.cells #[.slice A xs.length c] 63 (0, 0)) ∧ W.heap[w.heap.size + 1 + 1]? = some (.cells #[.slice A xs.length c] 63 (0, 0))) ∧ Below w.heap.size w W)
    (fun cc pre W => False)
    (OwnFrom.and (Own.from (fun s A B row hs hg hr => ⟨isBuilderF_kept hs.1 hg hr, box_kept hs.2.1 hg hr, box_kept hs.2.2 hg hr⟩) _) (ownFrom_below (Nat.le_refl _) (by omega)))
    (fun c => fun s W W' row h _ _ => h)
    ⟨⟨hF0, hB0, hB2⟩, hBW⟩
    (fun x => { tmps := #[.slice A xs.length c, .pointer (some ⟨w.heap.size, 0, none⟩), .string ⟨#[]⟩, .int .i64 0, .pointer (some ⟨w.heap.size + 1, 0, none⟩), .int .i64 (bk xs x.1).1, .int .u64 (bk xs x.1).2, undef, .slice A xs.length c, .int .i64 xs.length, .bool false, .slice A xs.length c,
      .func (.func 132) #[] #[.pointer (some ⟨w.heap.size + 1 + 1, 0, none⟩)], .int .i64 (bk xs x.1).1, .int .u64 (bk xs x.1).2, undef, undef, undef, undef, undef, undef, undef, undef, undef, undef, undef, undef, undef, undef, undef, undef, undef], defers := [] }) ?assign ?body ?done ?stop
  case assign =>
    intro l x W K hK
    gi_wp2
    exact hK
  case body =>
    rintro l pre ⟨k, hk⟩ W ⟨⟨hF, h0b, h2b⟩, hB⟩ hpl
    have hTW : Tab W := HT.out.below hB
    have hsW := hB.size
    have hlt1 := isBuilderF_lt hF
    have hlt2 : w.heap.size + 1 + 1 < W.heap.size := (Array.getElem?_eq_some_iff.1 h2b).1
    have hlt0 : w.heap.size < W.heap.size := by omega
    obtain ⟨cb, zb, hcb⟩ := isBuilderF_is hF
    have hlen : (Lib.byteCells (tkL xs (pre.map Subtype.val))).length ≤ 1800000 := by rw [Lib.byteCells_length]; have := tkL_le HL.out (pre.map Subtype.val); rw [List.length_map] at this; have hpl' : pre.length < xs.length := hpl; omega
    obtain ⟨m, hm⟩ : ∃ m : Nat, m = xs.length - 1 - k := ⟨_, rfl⟩
    have e1 : bk xs k = ((m : Int), rd xs (m : Nat)) := by rw [hm]; rfl
    obtain ⟨u, hu⟩ : ∃ u : Nat, rd xs (m : Nat) = u := ⟨(rd xs (m : Nat)).toNat, by have := (HL.out.rd (m : Nat)).1; omega⟩
    have hu9 : u < 1000000000 := by have := (HL.out.rd (m : Nat)).2; omega
    obtain ⟨d, hd⟩ : ∃ d, d = Sp.dec u := ⟨_, rfl⟩
    have hdl : (⟨(dl (rd xs (m : Nat))).toArray⟩ : ByteArray) = d := by rw [hd, hu]; rfl
    have hds : d.size = (dl (rd xs (m : Nat))).length := by rw [← hdl]; rfl
    have hd9 : d.size ≤ 9 := by rw [hds]; exact dl_le (by rw [hu]; omega)
    have hsn : tkL xs ((pre ++ [(⟨k, hk⟩ : Rn xs)]).map Subtype.val) = tkL xs (pre.map Subtype.val) ++ limbT xs k := by rw [List.map_append]; exact tkL_snoc _ _ _
    have hlT : limbT xs k = (if m < xs.length - 1 then Lib.repeatL [48] (9 - d.size) else []) ++ dl (rd xs (m : Nat)) := by unfold limbT padZ; rw [← hm, hds]
    have HD0 := Lib.hid hd
    have HM := Lib.hid hm
    have HD := Lib.hid hdl
    have HE := Lib.hid hds
    have HSN := Lib.hid hsn
    have HLT := Lib.hid hlT
    have H2 := Lib.hid h2b
    have HB := Lib.hid hB
    have HCB := Lib.hid hcb
    simp only [e1, hu]
    clear hd hm hdl hds hsn hlT e1 hu h2b hB hcb
    have h0c := (cell_of_box _ _ _ _ h0b).1
    by_cases hmn : m < xs.length - 1
    · gi_wp2_with (refine ⟨trivial, ?_⟩; gi_at_call 111; refine (CallsIn.inRound l (callsIn_wide.2 (formatUint_calls u (by omega) _ hTW))).mono ?_; rintro e w1 ⟨rfl, hb1⟩; rw [← HD0.out]; have h0c := (hb1.cell (p := ⟨w.heap.size, 0, none⟩) hlt0).trans h0c)
      refine ⟨trivial, ?_⟩
      gi_at_call 113
      rw [show (9 : Int) - (d.size : Int) = ((9 - d.size : Nat) : Int) by omega]
      refine (CallsIn.inRound l (callsIn_wide.2 (Tryz.strings_Repeat ⟨#[48]⟩ (9 - d.size) _ (by omega) (by show 1 * _ ≤ _; omega)))).mono ?_
      rintro e w2 ⟨rfl, hb2⟩
      gi_wp2
      refine ⟨trivial, ?_⟩
      gi_at_call 112
      have s1 := hb1.size
      have s2 := hb2.size
      have hz : (⟨(Lib.repeatL [48] (9 - d.size)).toArray⟩ : ByteArray).size = 9 - d.size := by show (Lib.repeatL [48] (9 - d.size)).toArray.size = _; simp [Lib.repeatL_length]
      refine (CallsIn.inRound l (callsIn_wide.2 (writeString_k (w.heap.size + 1) (w.heap.size + 1) _ _ _ (isBuilderF_below (isBuilderF_below hF hb1) hb2) (by rw [hz]; omega) (by omega)))).mono ?_
      rintro e w3 ⟨rfl, hF3, hb3, ho3⟩
      have s3 := hb3.size
      gi_wp2
      refine ⟨trivial, ?_⟩
      gi_at_call 112
      refine (CallsIn.inRound l (callsIn_wide.2 (writeString_k (w.heap.size + 1) (w.heap.size + 1) _ _ _ hF3 (by rw [List.length_append, Lib.strCells_length, hz]; omega) (by omega)))).mono ?_
      rintro e w4 ⟨rfl, hF4, hb4, ho4⟩
      gi_wp2
      have hO : Lib.OthersKept 5 (some (w.heap.size + 1)) W w4 := (((oth_below W w1 _ _ hb1).trans (oth_below w1 w2 _ _ hb2)).trans ho3).trans ho4
      have hBl : Below (w.heap.size + 1) W w4 := (((hb1.mono (by omega)).trans (hb2.mono (by omega))).trans hb3).trans hb4
      have h2k := hO _ _ H2.out (by simp) (by rintro c' fz e; injection e with _ e2; exact absurd e2 (by decide))
      refine ⟨keeps_of_others HCB.out hO hBl, ⟨h2k.trans H2.out.symm, hBl.mono (by omega)⟩, ⟨?_, (hBl.block _ (by omega)).trans h0b, h2k⟩, HB.out.trans (hBl.mono (by omega))⟩
      rw [HSN.out, HLT.out, if_pos hmn, ← List.append_assoc, ← strCells_app, ← strCells_app, HD.out]
      exact hF4
    · gi_wp2_with (refine ⟨trivial, ?_⟩; gi_at_call 111; refine (CallsIn.inRound l (callsIn_wide.2 (formatUint_calls u (by omega) _ hTW))).mono ?_; rintro e w1 ⟨rfl, hb1⟩; rw [← HD0.out]; have h0c := (hb1.cell (p := ⟨w.heap.size, 0, none⟩) hlt0).trans h0c)
      refine ⟨trivial, ?_⟩
      gi_at_call 112
      have s1 := hb1.size
      refine (CallsIn.inRound l (callsIn_wide.2 (writeString_k (w.heap.size + 1) (w.heap.size + 1) _ _ _ (isBuilderF_below hF hb1) (by omega) (by omega)))).mono ?_
      rintro e w4 ⟨rfl, hF4, hb4, ho4⟩
      gi_wp2
      have hO : Lib.OthersKept 5 (some (w.heap.size + 1)) W w4 := (oth_below W w1 _ _ hb1).trans ho4
      have hBl : Below (w.heap.size + 1) W w4 := (hb1.mono (by omega)).trans hb4
      have h2k := hO _ _ H2.out (by simp) (by rintro c' fz e; injection e with _ e2; exact absurd e2 (by decide))
      refine ⟨keeps_of_others HCB.out hO hBl, ⟨h2k.trans H2.out.symm, hBl.mono (by omega)⟩, ⟨?_, (hBl.block _ (by omega)).trans h0b, h2k⟩, HB.out.trans (hBl.mono (by omega))⟩
      rw [HSN.out, HLT.out, if_neg hmn, List.nil_append, ← strCells_app, HD.out]
      exact hF4
  case done =>
    rintro D ks W hD hS ⟨⟨hF, h0b, h2b⟩, hB⟩ hK
    have hks : ks.map Subtype.val = List.range xs.length := hS
    rw [hks] at hF
    have hT : textL xs = tkL xs (List.range xs.length) := by unfold textL; rw [if_neg (by omega)]
    rw [← hT] at hF
    have hlen : (Lib.byteCells (textL xs)).length = (textL xs).length := Lib.byteCells_length _
    obtain ⟨T, hT0⟩ : ∃ T, T = textL xs := ⟨_, rfl⟩
    rw [← hT0] at hF hlen
    have HT0 := Lib.hid hT0
    have HB := Lib.hid hB
    have HF := Lib.hid hF
    clear hT hT0 hB hF h2b h0b hS hks
    obtain ⟨D', hDD⟩ : ∃ D', D' = D := ⟨D, rfl⟩
    by_cases h3 : T.length ≤ 300
    · gi_wp2_with (refine ⟨trivial, ?_⟩; gi_at_call 114; refine (callsIn_wide.2 (Tryz.Builder_Len_f _ _ _ _ HF.out)).mono ?_; rintro e w1 ⟨rfl, hw1⟩; rw [hlen])
      refine ⟨trivial, ?_⟩
      gi_at_call 115
      refine (callsIn_wide.2 (Tryz.Builder_String_any_k _ _ T _ HF.out (by have := HB.out.size; have := isBuilderF_lt HF.out; omega))).mono ?_
      rintro e w2 ⟨rfl, hF2, hb2, ho2⟩
      gi_wp2
      have hK2 : w2.heap[D]? = some (.deferred (some [])) := ho2 D _ hK (by rintro e; cases e; obtain ⟨cb, zb, hcb⟩ := isBuilderF_is HF.out; exact cells_ne hcb hK rfl rfl) (by rintro c' fz e; cases e)
      refine ⟨by simp, .inl ⟨_, _, rfl, run_takeDeferred hK2, ?_⟩⟩
      refine ⟨.tuple #[.string ⟨T.toArray⟩, .int .i64 0], ?_, ?_, (HB.out.trans (hb2.mono (by omega))).trans (belowK_b (w := w) (Nat.le_refl _) w2 D _ _ (by omega) hK2 rfl rfl)⟩
      · simp [results, Tryz.f86, go_sem]
      · have := HT0.out; subst this; unfold textF; rw [if_pos h3]
    · gi_wp2_with (refine ⟨trivial, ?_⟩; gi_at_call 114; refine (callsIn_wide.2 (Tryz.Builder_Len_f _ _ _ _ HF.out)).mono ?_; rintro e w1 ⟨rfl, hw1⟩; rw [hlen])
      refine ⟨by simp, .inl ⟨_, _, rfl, run_takeDeferred hK, ?_⟩⟩
      refine ⟨.tuple #[.string ⟨#[]⟩, .int .i64 2], ?_, ?_, HB.out.trans (belowK_b (w := w) (Nat.le_refl _) W D _ _ (by omega) hK rfl rfl)⟩
      · simp [results, Tryz.f86, go_sem]
      · have := HT0.out; subst this; unfold textF; rw [if_neg h3]
  case stop =>
    rintro D cc pre W hD hS hff
    exact hff.elim
theorem text_calls (A : Option Addr) (c : Nat) (xs : List Int) (w : World) (hTab : Tab w) (hx : CU w A xs) (hL : Limbs xs) (hr : xs.length ≤ 100000) :
    Calls Tryz.prog 86 #[.slice A xs.length c] w fun e w' => e = .returned (.tuple #[.string (textF xs).1, .int .i64 (textF xs).2]) ∧ Below w.heap.size w w' := by
  rcases Nat.eq_zero_or_pos xs.length with h0 | h0
  · have h1 : textF xs = (⟨#[48]⟩, 0) := by unfold textF textL; rw [if_pos h0]; rfl
    rw [h0, h1]
    exact text_nil A c w
  · exact text_pos A c xs w hTab hx hL h0 hr
end Go.Proofs.YtmkanjcehhbmlaaGreatDoor.Pr
end
