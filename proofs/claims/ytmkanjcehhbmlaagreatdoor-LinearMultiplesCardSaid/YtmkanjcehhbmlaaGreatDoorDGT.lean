/- Rows of rows that are read: opened to cells, and made of cells. LinearDepends, walked: one row is another one, or zeros. Rows that are made beside others: what an append to one of them leaves of the others. LinearTurned, walked: the equations, and the unknowns, in the opposite order. LinearMultiples, walked: an equation is multiplied, and another one is added to it. -/
import Derived.Laws.OwnMore
import Derived.Deep.AppendLies
import Derived.Deep.RegionHeld3
import Derived.Deep.RegionLaw
import Derived.Test.YtmkanjcehhbmlaaGreatDoorDBuild
import Derived.Test.YtmkanjcehhbmlaaGreatDoorDFmt
import Derived.Test.YtmkanjcehhbmlaaGreatDoorDGL1
import Derived.Test.YtmkanjcehhbmlaaGreatDoorDGL2
import Derived.Test.YtmkanjcehhbmlaaGreatDoorDGN
import Derived.Test.YtmkanjcehhbmlaaGreatDoorDGN2
import Derived.Test.YtmkanjcehhbmlaaGreatDoorDGN3
import Derived.Test.YtmkanjcehhbmlaaGreatDoorDGP
import Derived.Test.YtmkanjcehhbmlaaGreatDoorDGRR
import Derived.Test.YtmkanjcehhbmlaaGreatDoorDGRS
import Derived.Test.YtmkanjcehhbmlaaGreatDoorDGW
import Derived.Test.YtmkanjcehhbmlaaGreatDoorDGW2
import Derived.Test.YtmkanjcehhbmlaaGreatDoorDHead19
import Derived.Test.YtmkanjcehhbmlaaGreatDoorDLinQ
import Derived.Test.YtmkanjcehhbmlaaGreatDoorDLinS
import Derived.Test.YtmkanjcehhbmlaaGreatDoorDNatApply
import Derived.Test.YtmkanjcehhbmlaaGreatDoorDNatS
import Derived.Test.YtmkanjcehhbmlaaGreatDoorDNum
import Derived.Test.YtmkanjcehhbmlaaGreatDoorDNumAdd
import Derived.Test.YtmkanjcehhbmlaaGreatDoorDNumCmp
import Derived.Test.YtmkanjcehhbmlaaGreatDoorDNumDiv
import Derived.Test.YtmkanjcehhbmlaaGreatDoorDNumIs
import Derived.Test.YtmkanjcehhbmlaaGreatDoorDNumMul
import Derived.Test.YtmkanjcehhbmlaaGreatDoorDNumOps
import Derived.Test.YtmkanjcehhbmlaaGreatDoorDNumParse
import Derived.Test.YtmkanjcehhbmlaaGreatDoorDNumText
import Derived.Test.YtmkanjcehhbmlaaGreatDoorDNumVal
import Derived.Test.YtmkanjcehhbmlaaGreatDoorDPrA1
import Derived.Test.YtmkanjcehhbmlaaGreatDoorDPrA10
import Derived.Test.YtmkanjcehhbmlaaGreatDoorDPrA11
import Derived.Test.YtmkanjcehhbmlaaGreatDoorDPrA3
import Derived.Test.YtmkanjcehhbmlaaGreatDoorDPrA4
import Derived.Test.YtmkanjcehhbmlaaGreatDoorDPrA5
import Derived.Test.YtmkanjcehhbmlaaGreatDoorDPrA6
import Derived.Test.YtmkanjcehhbmlaaGreatDoorDPrB1
import Derived.Test.YtmkanjcehhbmlaaGreatDoorDPrB2
import Derived.Test.YtmkanjcehhbmlaaGreatDoorDPrB3
import Derived.Test.YtmkanjcehhbmlaaGreatDoorDPrC1
import Derived.Test.YtmkanjcehhbmlaaGreatDoorDRatOps
import Derived.Test.YtmkanjcehhbmlaaGreatDoorDRatProd
import Derived.Test.YtmkanjcehhbmlaaGreatDoorDRatSum
import Derived.Test.YtmkanjcehhbmlaaGreatDoorDRatVal
import Derived.Test.YtmkanjcehhbmlaaGreatDoorDRegInv
import Derived.Test.YtmkanjcehhbmlaaGreatDoorDShelf
import Derived.Test.YtmkanjcehhbmlaaGreatDoorDSpec
import Derived.Test.YtmkanjcehhbmlaaGreatDoorDTab
import Derived.Test.YtmkanjcehhbmlaaGreatDoorDWLast
set_option linter.all false
section
namespace Go.Proofs.YtmkanjcehhbmlaaGreatDoor.Pr
set_option linter.unusedSimpArgs false
set_option linter.unusedVariables false
open Go.RowKit Go.Shelf Go.Proofs.YtmkanjcehhbmlaaGreatDoorW.PrintWords Go.Proofs.YtmkanjcehhbmlaaGreatDoorW.PrintLast Go.Proofs.YtmkanjcehhbmlaaGreatDoorW.PrintMore
theorem rows_cells2 {w : World} {A : Option Addr} {l : List (List SR)} (h : Kd.C (Kd.slice 31 kR) w A l.length l) :
    ∃ As cs, Hdr w A l.length As (fun j => (l.getD j []).length) cs ∧ ∀ j, j < l.length → Kd.C kR w (As j) (l.getD j []).length (l.getD j []) ∧ (l.getD j []).length ≤ cs j := by
  obtain ⟨As, cs, hH, hC⟩ := rows_cells h
  refine ⟨As, cs, hH, fun j hj => ⟨hC j hj, ?_⟩⟩
  obtain ⟨ad, e, hc⟩ := h.2.2 (by omega)
  obtain ⟨b, off, e2, _, hcell⟩ := hH (by omega)
  rw [e] at e2
  injection e2 with e2
  subst e2
  have hx : l[j]? = some (l.getD j []) := by rw [List.getD_eq_getElem?_getD, List.getElem?_eq_getElem hj]; rfl
  obtain ⟨c, hl, ⟨A', c', rfl, hlc, _⟩, hcc⟩ := hc j _ hx
  have h0 := hcc 0 _ rfl
  have ea : ∀ j, (⟨b, off, none⟩ : Addr).add j = ⟨b, off + j, none⟩ := fun j => by unfold Addr.add; split <;> simp_all
  rw [ea] at h0
  have e1 : off + (j * (Kd.slice 31 kR).sz + 0) = off + j := by show off + (j * 1 + 0) = _; omega
  rw [e1, hcell j hj] at h0
  injection h0 with h0
  injection h0 with _ _ h0
  omega
theorem C_rows_mk {W : World} {g off n : Nat} {l : List (List SR)} (hl : l.length = n) (hn : n ≤ 9223372036854775807) (h : ∀ j, j < n → ∃ A c, W.cell? ⟨g, off + j, none⟩ = some (.slice A (l.getD j []).length c) ∧ (l.getD j []).length ≤ c ∧ Kd.C kR W A (l.getD j []).length (l.getD j [])) :
    Kd.C (Kd.slice 31 kR) W (some ⟨g, off, none⟩) n l := by
  refine ⟨hl, hn, fun _ => ⟨⟨g, off, none⟩, rfl, fun j p hj => ?_⟩⟩
  have hjl : j < n := by have := (List.getElem?_eq_some_iff.1 hj).1; omega
  have hp : l.getD j [] = p := by rw [List.getD_eq_getElem?_getD, hj]; rfl
  obtain ⟨A, c, h1, h2, h3⟩ := h j hjl
  rw [hp] at h1 h2 h3
  refine ⟨[.slice A p.length c], rfl, ⟨A, c, rfl, h2, h3⟩, fun i u hu => ?_⟩
  match i, hu with
  | 0, hu =>
    injection hu with hu; subst hu
    have ea : ∀ j, (⟨g, off, none⟩ : Addr).add j = ⟨g, off + j, none⟩ := fun j => by unfold Addr.add; split <;> simp_all
    rw [ea]
    show W.cell? ⟨g, off + (j * 1 + 0), none⟩ = _
    rw [show off + (j * 1 + 0) = off + j by omega]; exact h1
/-- The header's cells as a list. -/
def hdrL (n : Nat) (f : Nat → Value) : List Value := (List.range n).map f
theorem hdrL_len (n : Nat) (f : Nat → Value) : (hdrL n f).length = n := by unfold hdrL; simp
theorem hdrL_get (n : Nat) (f : Nat → Value) (j : Nat) (h : j < n) : (hdrL n f)[j]? = some (f j) := by unfold hdrL; simp [h]
theorem hdrL_get' {n : Nat} {f : Nat → Value} {j : Nat} {v : Value} (h : (hdrL n f)[j]? = some v) : j < n ∧ v = f j := by
  have hj : j < n := by have := (List.getElem?_eq_some_iff.1 h).1; rwa [hdrL_len] at this
  rw [hdrL_get n f j hj] at h
  exact ⟨hj, (Option.some.inj h).symm⟩
theorem hdrL_set (n : Nat) (f : Nat → Value) (j : Nat) (v : Value) : (hdrL n f).set j v = hdrL n (fun i => if i = j then v else f i) := by
  apply List.ext_getElem?
  intro m
  rw [List.getElem?_set, hdrL_len]
  by_cases hm : m < n
  · rw [hdrL_get n f m hm, hdrL_get n _ m hm]
    by_cases e : j = m
    · subst e; rw [if_pos rfl, if_pos hm, if_pos rfl]
    · rw [if_neg e, if_neg (fun h => e h.symm)]
  · rw [List.getElem?_eq_none (by rw [hdrL_len]; omega), List.getElem?_eq_none (by rw [hdrL_len]; omega)]
    split
    · rw [if_neg (by omega)]
    · rfl
theorem hdrL_one (n : Nat) (f : Nat → Value) (h : ∀ j, j < n → (f j).oneCell' = true) : ∀ u ∈ hdrL n f, u.oneCell' = true := fun u hu => by
  unfold hdrL at hu
  obtain ⟨j, hj, rfl⟩ := List.mem_map.1 hu
  exact h j (List.mem_range.1 hj)
/-- Rows of rows out of an owned header: f's slices lead to rows that are read. -/
theorem C_of_hdr {W : World} {base g cap n : Nat} {f : Nat → Value} {l : List (List SR)} (h : W.ownsRow base 23 1 (.slice (some ⟨g, 0, none⟩) n cap) n (hdrL n f)) (hl : l.length = n) (hn : n ≤ 9223372036854775807)
    (hf : ∀ j, j < n → ∃ A c, f j = .slice A (l.getD j []).length c ∧ (l.getD j []).length ≤ c ∧ Kd.C kR W A (l.getD j []).length (l.getD j [])) : Kd.C (Kd.slice 31 kR) W (some ⟨g, 0, none⟩) n l := by
  refine C_rows_mk hl hn fun j hj => ?_
  obtain ⟨A, c, h1, h2, h3⟩ := hf j hj
  exact ⟨A, c, by rw [Nat.zero_add, h.cellAt j (by omega), hdrL_get n f j hj, h1], h2, h3⟩
theorem own_cell {W : World} {base g cap n : Nat} {f : Nat → Value} {e : TypeId} (h : W.ownsRow base e 1 (.slice (some ⟨g, 0, none⟩) n cap) n (hdrL n f)) {j : Nat} (hj : j < n) : W.cell? ⟨g, j, none⟩ = some (f j) ∧ W.frozen? ⟨g, j, none⟩ = false :=
  ⟨by rw [h.cellAt j (by omega), hdrL_get n f j hj], h.frozenAt j⟩
end Go.Proofs.YtmkanjcehhbmlaaGreatDoor.Pr
end

section
namespace Go.Proofs.YtmkanjcehhbmlaaGreatDoor.Pr
set_option linter.unusedSimpArgs false
set_option linter.unusedVariables false
open Go.RowKit Go.Shelf Go.Proofs.YtmkanjcehhbmlaaGreatDoorW.PrintWords Go.Proofs.YtmkanjcehhbmlaaGreatDoorW.PrintLast Go.Proofs.YtmkanjcehhbmlaaGreatDoorW.PrintMore Ga
theorem add_block (g o j : Nat) : (⟨g, o, none⟩ : Addr).add j = ⟨g, o + j, none⟩ := by unfold Addr.add; split <;> simp_all
theorem sq_cases (l0 : List (List SR)) (l1 : List SR) (hb0 : l0.length ≤ BIG) (hb1 : l1.length ≤ BIG) (hbr : ∀ r ∈ l0, r.length ≤ BIG) : (∃ k, customhouselaw19_square.f k l0 l1 = some false) ∨ (goodA l0 l1 = true ∧ l1.length ≤ 8 ∧ ∃ k, customhouselaw19_square.f k l0 l1 = some true) := by
  obtain ⟨r, h1, h2⟩ := square_ev l0 l1 hb0 hb1 hbr
  cases r
  · exact .inl h1.rounds
  · exact .inr ⟨(h2 rfl).1, (h2 rfl).2, h1.rounds⟩
set_option maxRecDepth 100000 in
theorem dep_no (A0 : Option Addr) (c0 : Nat) (l0 : List (List SR)) (A1 : Option Addr) (c1 : Nat) (l1 : List SR) (one two : Int) (k : Nat) (w : World) (hTab : Tab w)
    (hr0 : Kd.C (Kd.slice 31 kR) w A0 l0.length l0) (hc0 : l0.length ≤ c0) (hr1 : Kd.C kR w A1 l1.length l1) (hc1 : l1.length ≤ c1) (h : customhouselaw19_square.f k l0 l1 = some false) :
    Calls Tryz.prog 5 #[.slice A0 l0.length c0, .slice A1 l1.length c1, .int .u8 one, .int .u8 two] w fun e w' => e = .returned (.bool true) ∧ Below w.heap.size w w' := by
  have HT := Lib.hid hTab
  have HSQ := Lib.hid (fun W (hW : Below w.heap.size w W) => customhouselaw19_square.calls k A0 c0 l0 A1 c1 l1 false W (hTab.below hW) (Kd.C_below hr0 hW) hc0 (Kd.C_below hr1 hW) hc1 h)
  clear hTab hr0 hc0 hr1 hc1 h
  go_enter Tryz.func5, Tryz.ntmps5
  go_wp2_with (first | (go_at_call 10; with_reducible refine (customhouselaw19_head.calls true _ HT.out rfl).mono ?_; rintro e w1 ⟨rfl, hb⟩; have HB := Lib.hid hb; clear hb) | (go_at_call 15; with_reducible refine (HSQ.out _ HB.out).mono ?_; rintro e w2 ⟨rfl, hb2⟩; have HB2 := Lib.hid (HB.out.trans (hb2.mono HB.out.size)); clear hb2))
  go_ret
  exact ⟨rfl, HB2.out⟩
set_option maxRecDepth 100000 in
theorem dep_zero_len (A0 : Option Addr) (c0 : Nat) (A1 : Option Addr) (c1 : Nat) (one two : Int) (w : World) (hTab : Tab w)
    (hsq : ∀ W, Below w.heap.size w W → Calls Tryz.prog 15 #[.slice A0 0 c0, .slice A1 0 c1] W fun e w' => e = .returned (.bool true) ∧ Below W.heap.size W w') :
    Calls Tryz.prog 5 #[.slice A0 0 c0, .slice A1 0 c1, .int .u8 one, .int .u8 two] w fun e w' => e = .returned (.bool true) ∧ Below w.heap.size w w' := by
  have HT := Lib.hid hTab
  have HSQ := Lib.hid hsq
  clear hTab hsq
  go_enter Tryz.func5, Tryz.ntmps5
  go_wp2_with (first | (go_at_call 10; with_reducible refine (customhouselaw19_head.calls true _ HT.out rfl).mono ?_; rintro e w1 ⟨rfl, hb⟩; have HB := Lib.hid hb; clear hb) | (go_at_call 15; with_reducible refine (HSQ.out _ HB.out).mono ?_; rintro e w2 ⟨rfl, hb2⟩; have HB2 := Lib.hid (HB.out.trans (hb2.mono HB.out.size)); clear hb2))
  go_ret
  exact ⟨rfl, HB2.out⟩
/-- What is known of a good system's memory. -/
structure SysC (w : World) (A0 A1 : Option Addr) (n : Nat) (l0 : List (List SR)) (l1 : List SR) (As : Nat → Option Addr) (cs : Nat → Nat) : Prop where
  sys : Sys w A0 A1 n l0 l1 As cs
  cap : ∀ j, j < n → n ≤ cs j
  len0 : l0.length = n
theorem SysC.rowAt {w W : World} {A0 A1 : Option Addr} {n : Nat} {l0 : List (List SR)} {l1 : List SR} {As : Nat → Option Addr} {cs : Nat → Nat} (h : SysC w A0 A1 n l0 l1 As cs) (hb : Below w.heap.size w W) {j : Nat} (hj : j < n) :
    ∃ A c, Value.slice (As j) n (cs j) = .slice A (l0.getD j []).length c ∧ (l0.getD j []).length ≤ c ∧ Kd.C kR W A (l0.getD j []).length (l0.getD j []) := by
  have hl := h.sys.len j hj
  exact ⟨As j, cs j, by rw [hl], by rw [hl]; exact h.cap j hj, by rw [hl]; exact Kd.C_below (h.sys.row j hj) hb⟩
def hdr0 (n : Nat) (As : Nat → Option Addr) (cs : Nat → Nat) : Nat → Value := fun j => .slice (As j) n (cs j)
theorem sol_use {g cap n c1 : Nat} {A1 : Option Addr} {L : List (List SR)} {l1 : List SR} {W : World} (hT : Tab W) (hC : Kd.C (Kd.slice 31 kR) W (some ⟨g, 0, none⟩) n L) (hL : L.length = n) (hcap : n ≤ cap) (h1 : Kd.C kR W A1 n l1) (hl1 : l1.length = n) (hc1 : n ≤ c1) (hn : n ≤ 8) (hr : ∀ j, j < n → (L.getD j []).length = n) :
    Calls Tryz.prog 12 #[.slice (some ⟨g, 0, none⟩) n cap, .slice A1 n c1] W fun e w' => ∃ v0_ : Value, e = .returned (.tuple #[v0_, .int .i64 (linF L l1).2]) ∧ Go.Proofs.YtmkanjcehhbmlaaGreatDoorW.PrintWords.Kd.R kR 31 w' W.heap.size (fun _ => True) v0_ (linF L l1).1 ∧ Below W.heap.size W w' := by
  have hs := solve_f (l0 := L) (l1 := l1) (by omega) (by omega) (fun j hj => by have := hr j (by omega); omega)
  have := linear_Solve.calls (some ⟨g, 0, none⟩) cap L A1 c1 l1 (linF L l1).1 (linF L l1).2 W hT (by rw [hL]; exact hC) (by rw [hL]; exact hcap) (by rw [hl1]; exact h1) (by rw [hl1]; exact hc1) hs
  rwa [hL, hl1] at this
set_option maxRecDepth 100000 in
set_option maxHeartbeats 1000000 in
theorem dep_ne (A0 : Option Addr) (c0 : Nat) (l0 : List (List SR)) (A1 : Option Addr) (c1 : Nat) (l1 : List SR) (one two : Int) (n i m : Nat) (As : Nat → Option Addr) (cs : Nat → Nat) (w : World) (hTab : Tab w)
    (hsq : ∀ W, Below w.heap.size w W → Calls Tryz.prog 15 #[.slice A0 n c0, .slice A1 n c1] W fun e w' => e = .returned (.bool true) ∧ Below W.heap.size W w')
    (hS : SysC w A0 A1 n l0 l1 As cs) (hc1 : n ≤ c1) (h8 : n ≤ 8) (h1 : 1 ≤ n) (ho : 0 ≤ one) (ho' : one < 256) (ht : 0 ≤ two) (ht' : two < 256) (hi : one % (n : Int) = (i : Int)) (hm : two % (n : Int) = (m : Int)) (hin : i < n) (hmn : m < n) (hne : i ≠ m)
    (e : Int) (hres : linF (l0.set i (l0.getD m [])) l1 = ([], e)) (he : e = 12 ∨ e = 2) :
    Calls Tryz.prog 5 #[.slice A0 n c0, .slice A1 n c1, .int .u8 one, .int .u8 two] w fun e w' => e = .returned (.bool true) ∧ Below w.heap.size w w' := by
  have HT := Lib.hid hTab
  have HSQ := Lib.hid hsq
  have HS := Lib.hid hS
  have HI := Lib.hid hi
  have HM := Lib.hid hm
  have HRES := Lib.hid hres
  have HE := Lib.hid he
  have hn0 : ((n : Int) == 0) = false := by simp; omega
  have hne' : ((i : Int) == (m : Int)) = false := by simp; omega
  clear hTab hsq hS hi hm hres he
  go_enter Tryz.func5, Tryz.ntmps5
  go_upto_region 5 with (first | (go_at_call 10; with_reducible refine (customhouselaw19_head.calls true _ HT.out rfl).mono ?_; rintro e w1 ⟨rfl, hb⟩; have HB := Lib.hid hb; clear hb) | (go_at_call 15; with_reducible refine (HSQ.out _ HB.out).mono ?_; rintro e w2 ⟨rfl, hb2⟩; have HB2 := Lib.hid (HB.out.trans (hb2.mono HB.out.size)); clear hb2))
  have hi := HI.out
  have hm := HM.out
  go_upto_region 7 with fail
  rw [HI.out, HM.out]
  clear hi hm
  obtain ⟨i0, hf0, hf1, hf2, hf3⟩ := info_parts infoRow
  obtain ⟨b, off, rfl, hb0, hcA⟩ := HS.out.sys.hdr (by omega)
  have HCA := Lib.hid hcA
  have HB0 := Lib.hid hb0
  clear hb0 hcA
  go_upto_region 8 with (at_builtin; refine wpList_append_own_at _ rfl _ _ 22 rfl w.heap.size 23 i0 (.slice none 0 0) 1 24 Tryz.underlying22 hf0 hf1 hf2 hf3 rfl (by decide) _ 0 [] rfl ?own _ n c0 (hdrL n (hdr0 n As cs)) rfl ?hl ?hnews ?hone ?c3 ?c4 ?c5 ?_; (case own => exact World.ownsRow_lit w2 #[] 0 HB2.out.size (by decide) rfl); (case hl => rw [hdrL_len, Nat.mul_one]); (case hnews => intro j u hu; obtain ⟨hj, rfl⟩ := hdrL_get' hu; rw [add_block]; exact ((HB2.out.alloc HB2.out.size _).cell (p := ⟨b, off + j, none⟩) HB0.out).trans (HCA.out j hj)); (case hone => exact hdrL_one _ _ fun _ _ => rfl); (case c3 => unfold maxLen; omega); (case c4 => omega); (case c5 => have := HB2.out.size; simp; omega); intro v1 W1 hown hg _ hat)
  rw [List.nil_append, Nat.zero_add] at hown
  have hB1 : Below w.heap.size w W1 := (HB2.out.alloc HB2.out.size _).grown hg (by have := HB2.out.size; simp; omega) (fun k hk => by have e : w2.heap.size = k := Option.some.inj hk; have := HB2.out.size; omega)
  clear hg hat
  obtain ⟨g, cap, rfl, hgb, hgl⟩ := hown.form (by omega)
  have HOWN := Lib.hid hown
  have HB3 := Lib.hid hB1
  obtain ⟨q1, q2⟩ := own_cell hown hin
  have q3 := (HB3.out.cell (p := ⟨b, off + m, none⟩) HB0.out).trans (HCA.out m hmn)
  have q0 : (i : Int) < (n : Int) := by omega
  have q0' : (m : Int) < (n : Int) := by omega
  clear hown hB1
  go_upto_region 9 with fail
  have HOWN2 := Lib.hid (HOWN.out.stored i (.slice (As m) n (cs m))).1
  have HB4 := Lib.hid (HB3.out.setCell (p := ⟨g, i, none⟩) hgb (.slice (As m) n (cs m)))
  clear q1 q2 q3 HOWN HB3
  have HC := Lib.hid (C_of_hdr (l := l0.set i (l0.getD m [])) (by have := HOWN2.out; rw [hdrL_set] at this; exact this) (by rw [List.length_set]; exact HS.out.len0) (by omega) (fun j hj => by
    rw [getD_set _ _ _ _ (by rw [HS.out.len0]; exact hin)]
    by_cases ej : j = i
    · rw [if_pos ej, if_pos ej]; exact HS.out.rowAt HB4.out hmn
    · rw [if_neg ej, if_neg ej]; exact HS.out.rowAt HB4.out hj))
  have HSOL := Lib.hid (sol_use (cap := cap) (HT.out.below HB4.out) HC.out (by rw [List.length_set]; exact HS.out.len0) (own_le HOWN2.out) (Kd.C_below HS.out.sys.rhs HB4.out) HS.out.sys.len1 hc1 h8 (fun j hj => by
    rw [getD_set _ _ _ _ (by rw [HS.out.len0]; exact hin)]
    by_cases ej : j = i
    · rw [if_pos ej]; exact HS.out.sys.len m hmn
    · rw [if_neg ej]; exact HS.out.sys.len j hj))
  rw [HRES.out] at HSOL
  rcases HE.out with rfl | rfl
  all_goals
    go_wp2_with (go_at_call 12; with_reducible refine HSOL.out.mono ?_; rintro e w3 ⟨v0, rfl, hR, hb3⟩; obtain ⟨AR, cR, rfl, _⟩ := Kd.R_reads hR; have HB5 := Lib.hid (HB4.out.trans (hb3.mono HB4.out.size)); clear hR hb3)
    go_ret
    exact ⟨rfl, HB5.out⟩
/-- The changed rows, row i of which is v, k zeros. -/
structure ZR (w W : World) (g cap n i : Nat) (As : Nat → Option Addr) (cs : Nat → Nat) (v : Value) (k : Nat) : Prop where
  own : W.ownsRow w.heap.size 23 1 (.slice (some ⟨g, 0, none⟩) n cap) n (hdrL n (fun j => if j = i then v else hdr0 n As cs j))
  row : Kd.R kR 31 W w.heap.size (fun b => b ≠ g) v (List.replicate k zR)
  bel : Below w.heap.size w W
theorem ZR.below {w W W' : World} {g cap n i k : Nat} {As : Nat → Option Addr} {cs : Nat → Nat} {v : Value} (h : ZR w W g cap n i As cs v k) (hb : Below W.heap.size W W') : ZR w W' g cap n i As cs v k :=
  ⟨pw_own_below h.own hb, Kd.R_below h.row hb, h.bel.trans (hb.mono h.bel.size)⟩
theorem ZR.lt {w W : World} {g cap n i k : Nat} {As : Nat → Option Addr} {cs : Nat → Nat} {v : Value} (h : ZR w W g cap n i As cs v k) : w.heap.size ≤ g ∧ g < W.heap.size := by
  have := h.own.lt g rfl; exact this
theorem ZR.next {w W W1 : World} {g cap n i k : Nat} {As : Nat → Option Addr} {cs : Nat → Nat} {v v1 : Value} (h : ZR w W g cap n i As cs v k) (hi : i < n) (hR : Kd.R kR 31 W1 w.heap.size (fun b => b ≠ g) v1 (List.replicate k zR ++ [zR])) (hB : Below w.heap.size w W1) (hg : W.grownBy W1 v.ownBlock) :
    W1.ownsRow w.heap.size 23 1 (.slice (some ⟨g, 0, none⟩) n cap) n (hdrL n (fun j => if j = i then v else hdr0 n As cs j)) ∧ ZR w (W1.setCell ⟨g, i, none⟩ v1) g cap n i As cs v1 (k + 1) := by
  have ho : W1.ownsRow w.heap.size 23 1 (.slice (some ⟨g, 0, none⟩) n cap) n (hdrL n (fun j => if j = i then v else hdr0 n As cs j)) := h.own.kept hg (.inr fun e => h.row.1 g e.symm rfl)
  refine ⟨ho, ?_, ?_, hB.setCell (p := ⟨g, i, none⟩) h.lt.1 v1⟩
  · have := (ho.stored i v1).1
    rw [hdrL_set] at this
    have e : (fun j => if j = i then v1 else if j = i then v else hdr0 n As cs j) = (fun j => if j = i then v1 else hdr0 n As cs j) := by
      funext j; by_cases e : j = i
      · rw [if_pos e, if_pos e]
      · rw [if_neg e, if_neg e, if_neg e]
    rwa [e] at this
  · rw [List.replicate_succ']
    exact Kd.R_far (p := ⟨g, i, none⟩) hR (fun _ h => h) v1
set_option maxRecDepth 100000 in
set_option maxHeartbeats 1000000 in
theorem dep_eqz (A0 : Option Addr) (c0 : Nat) (l0 : List (List SR)) (A1 : Option Addr) (c1 : Nat) (l1 : List SR) (one two : Int) (n i : Nat) (As : Nat → Option Addr) (cs : Nat → Nat) (w : World) (hTab : Tab w)
    (hsq : ∀ W, Below w.heap.size w W → Calls Tryz.prog 15 #[.slice A0 n c0, .slice A1 n c1] W fun e w' => e = .returned (.bool true) ∧ Below W.heap.size W w')
    (hS : SysC w A0 A1 n l0 l1 As cs) (hc1 : n ≤ c1) (h8 : n ≤ 8) (h1 : 1 ≤ n) (ho : 0 ≤ one) (ho' : one < 256) (ht : 0 ≤ two) (ht' : two < 256) (hi : one % (n : Int) = (i : Int)) (hm : two % (n : Int) = (i : Int)) (hin : i < n)
    (e : Int) (hres : linF (l0.set i (List.replicate n zR)) l1 = ([], e)) (he : e = 12 ∨ e = 2) :
    Calls Tryz.prog 5 #[.slice A0 n c0, .slice A1 n c1, .int .u8 one, .int .u8 two] w fun e w' => e = .returned (.bool true) ∧ Below w.heap.size w w' := by
  have HT := Lib.hid hTab
  have HSQ := Lib.hid hsq
  have HS := Lib.hid hS
  have HI := Lib.hid hi
  have HM := Lib.hid hm
  have HRES := Lib.hid hres
  have HE := Lib.hid he
  have hn0 : ((n : Int) == 0) = false := by simp; omega
  clear hTab hsq hS hi hm hres he
  go_enter Tryz.func5, Tryz.ntmps5
  go_upto_region 5 with (first | (go_at_call 10; with_reducible refine (customhouselaw19_head.calls true _ HT.out rfl).mono ?_; rintro e w1 ⟨rfl, hb⟩; have HB := Lib.hid hb; clear hb) | (go_at_call 15; with_reducible refine (HSQ.out _ HB.out).mono ?_; rintro e w2 ⟨rfl, hb2⟩; have HB2 := Lib.hid (HB.out.trans (hb2.mono HB.out.size)); clear hb2))
  have hi := HI.out
  have hm := HM.out
  go_upto_region 7 with fail
  rw [HI.out, HM.out]
  clear hi hm
  obtain ⟨i0, hf0, hf1, hf2, hf3⟩ := info_parts infoRow
  obtain ⟨b, off, rfl, hb0, hcA⟩ := HS.out.sys.hdr (by omega)
  have HCA := Lib.hid hcA
  have HB0 := Lib.hid hb0
  clear hb0 hcA
  go_upto_region 8 with (at_builtin; refine wpList_append_own_at _ rfl _ _ 22 rfl w.heap.size 23 i0 (.slice none 0 0) 1 24 Tryz.underlying22 hf0 hf1 hf2 hf3 rfl (by decide) _ 0 [] rfl ?own _ n c0 (hdrL n (hdr0 n As cs)) rfl ?hl ?hnews ?hone ?c3 ?c4 ?c5 ?_; (case own => exact World.ownsRow_lit w2 #[] 0 HB2.out.size (by decide) rfl); (case hl => rw [hdrL_len, Nat.mul_one]); (case hnews => intro j u hu; obtain ⟨hj, rfl⟩ := hdrL_get' hu; rw [add_block]; exact ((HB2.out.alloc HB2.out.size _).cell (p := ⟨b, off + j, none⟩) HB0.out).trans (HCA.out j hj)); (case hone => exact hdrL_one _ _ fun _ _ => rfl); (case c3 => unfold maxLen; omega); (case c4 => omega); (case c5 => have := HB2.out.size; simp; omega); intro v1 W1 hown hg _ hat)
  rw [List.nil_append, Nat.zero_add] at hown
  have hB1 : Below w.heap.size w W1 := (HB2.out.alloc HB2.out.size _).grown hg (by have := HB2.out.size; simp; omega) (fun k hk => by have e : w2.heap.size = k := Option.some.inj hk; have := HB2.out.size; omega)
  clear hg hat
  obtain ⟨g, cap, rfl, hgb, hgl⟩ := hown.form (by omega)
  have HOWN := Lib.hid hown
  have HB3 := Lib.hid hB1
  obtain ⟨q1, q2⟩ := own_cell hown hin
  have q3 := (HB3.out.cell (p := ⟨b, off + i, none⟩) HB0.out).trans (HCA.out i hin)
  have q0 : (i : Int) < (n : Int) := by omega
  clear hown hB1
  go_upto_region 10 with fail
  have HOWN2 := Lib.hid (HOWN.out.stored i (.slice (As i) n (cs i))).1
  have HB4 := Lib.hid (HB3.out.setCell (p := ⟨g, i, none⟩) hgb (.slice (As i) n (cs i)))
  clear q1 q2 q3 HOWN HB3
  rw [hdrL_set] at HOWN2
  obtain ⟨W2, hW2⟩ : ∃ W2, W1.setCell ⟨g, i, none⟩ (.slice (As i) n (cs i)) = W2 := ⟨_, rfl⟩
  rw [hW2] at HOWN2 HB4 ⊢
  clear hW2
  obtain ⟨q1, q2⟩ := own_cell HOWN2.out hin
  go_upto_region 11 with fail
  have HZ0 : Hid (ZR w (W2.setCell ⟨g, i, none⟩ (.slice none 0 0)) g cap n i As cs (.slice none 0 0) 0) := Lib.hid ⟨by
      have := (HOWN2.out.stored i (.slice none 0 0)).1
      rw [hdrL_set] at this
      have e : (fun j => if j = i then Value.slice none 0 0 else if j = i then .slice (As i) n (cs i) else hdr0 n As cs j) = (fun j => if j = i then .slice none 0 0 else hdr0 n As cs j) := by
        funext j; by_cases e : j = i
        · rw [if_pos e, if_pos e]
        · rw [if_neg e, if_neg e, if_neg e]
      rwa [e] at this, Kd.R_nil _ _ _ _ _, HB4.out.setCell (p := ⟨g, i, none⟩) hgb _⟩
  clear q1 q2 HOWN2 HB4
  go_wp2_with fail
  go_loopw [55] (fun s55 wr => ∃ k : Nat, k ≤ n ∧ s55 = .int .i64 k ∧ ∃ v, Hid (ZR w wr g cap n i As cs v k)) (fun s55 _ => (n - intOf s55).toNat)
  case atStart => exact ⟨0, Nat.zero_le _, rfl, _, HZ0⟩
  case round =>
    clear HZ0
    obtain ⟨k, hk, rfl, v, HZ⟩ := hrel
    by_cases hlt : k < n
    · obtain ⟨q1, q2⟩ := own_cell HZ.out.own hin
      rw [if_pos rfl] at q1
      go_upto_region 13 with fail
      have HZd := Lib.hid (HZ.out.below (below_drew1 (Below.refl _ wr)))
      have hv0 : rdc wr ⟨g, i, none⟩ = v := rdc_val q1
      have q1' := rdc_of q1
      go_region_law
        (first
          | (refine Kd.R_append_step kR (w0 := w) w.heap.size (by rfl) (.tmp 62) (.tmp 64) 23 31 (.agg #[(.bool false), (.string ⟨#[]⟩), (.string ⟨#[]⟩)]) 40 (by rfl) Tryz.underlying23 info31 (by rfl) (by decide) (by omega) v (List.replicate k zR) zR [.bool zR.f0, .string zR.f1, .string zR.f2] (fun b => b ≠ g) (fun _ => False) (by first | rfl | exact hv0 | exact rdc_val r1 | exact rdc_val ((((Below.refl _ w4).alloc (Nat.le_refl _) _).cell (p := ⟨g, i, none⟩) HZ4.out.lt.2).trans r1)) (by rfl) (k31_mkM _ _ _ zR) (fun _ hk => hk.elim) (fun b hb e => by have := HZ4.out.lt; omega) HZ4.out.row HZ4.out.bel HZ4.out.bel.size (by rw [List.length_replicate]; omega) ?_; intro v1 W5 hR hB hg _; obtain ⟨A5, c5, e5, _⟩ := Kd.R_reads hR; obtain ⟨L5, hL5⟩ : ∃ L5, (List.replicate k zR ++ [zR]).length = L5 := ⟨_, rfl⟩; rw [hL5] at e5; subst e5; clear hL5; obtain ⟨hO5, hZ5⟩ := HZ4.out.next hin hR hB hg; have HZ5 := Lib.hid hZ5; obtain ⟨s1, s2⟩ := own_cell hO5 hin; rw [if_pos rfl] at s1; clear hO5 hZ5 hR hB hg)
          | (refine goes_ Tryz.func17 (by kernel_rfl) rfl #[.int .i64 0] (by rfl) (by rfl) (by rfl) (by (try simp only [List.map_toArray, List.map_cons, List.map_nil]); first | done | rfl) ?_; (with_reducible refine (customhouselaw19_number.calls 0 _ _ _ _ (HT.out.below HZd.out.bel) num0).mono ?_); rintro e w4 ⟨rfl, hb4⟩; refine ⟨_, rfl, ?_⟩; have HZ4 := Lib.hid (HZd.out.below hb4); clear hb4; obtain ⟨r1, r2⟩ := own_cell HZ4.out.own hin; rw [if_pos rfl] at r1; have r3 := (((Below.refl _ w4).alloc (Nat.le_refl _) (.cells #[.bool zR.f0, .string zR.f1, .string zR.f2] 31)).cell (p := ⟨g, i, none⟩) HZ4.out.lt.2).trans r1))
      all_goals
        go_wp2_with fail
        go_roundw
        case rel => exact ⟨k + 1, hlt, by go_num, _, HZ5⟩
        case measure => simp only [intOf]; omega
    · obtain rfl : k = n := by omega
      have HC := Lib.hid (C_of_hdr (l := l0.set i (List.replicate k zR)) HZ.out.own (by rw [List.length_set]; exact HS.out.len0) (by omega) (fun j hj => by
        rw [getD_set _ _ _ _ (by rw [HS.out.len0]; exact hin)]
        by_cases ej : j = i
        · rw [if_pos ej, if_pos ej]
          obtain ⟨A, c, h1, h2, h3⟩ := Kd.R_reads HZ.out.row
          exact ⟨A, c, h1, h2, h3⟩
        · rw [if_neg ej, if_neg ej]; exact HS.out.rowAt HZ.out.bel hj))
      have HSOL := Lib.hid (sol_use (cap := cap) (HT.out.below HZ.out.bel) HC.out (by rw [List.length_set]; exact HS.out.len0) (own_le HZ.out.own) (Kd.C_below HS.out.sys.rhs HZ.out.bel) HS.out.sys.len1 hc1 h8 (fun j hj => by
        rw [getD_set _ _ _ _ (by rw [HS.out.len0]; exact hin)]
        by_cases ej : j = i
        · rw [if_pos ej]; exact List.length_replicate
        · rw [if_neg ej]; exact HS.out.sys.len j hj))
      rw [HRES.out] at HSOL
      have HB4 := Lib.hid HZ.out.bel
      rcases HE.out with rfl | rfl
      all_goals
        go_wp2_with (go_at_call 12; with_reducible refine HSOL.out.mono ?_; rintro e w3 ⟨v0, rfl, hR, hb3⟩; obtain ⟨AR, cR, rfl, _⟩ := Kd.R_reads hR; have HB5 := Lib.hid (HB4.out.trans (hb3.mono HB4.out.size)); clear hR hb3)
        go_ret
        exact ⟨rfl, HB5.out⟩
theorem u8_wf {n : Int} (h : (Lit.int .u8 n).wf = true) : 0 ≤ n ∧ n < 256 := by
  unfold Lit.wf at h
  simp only [Bool.and_eq_true, decide_eq_true_eq] at h
  have h1 : IntKind.min .u8 = 0 := by decide
  have h2 : IntKind.max .u8 = 255 := by decide
  rw [h1, h2] at h; omega
/-- LinearDepends returns true, whatever the arguments. -/
theorem dep_calls (A0 : Option Addr) (c0 : Nat) (l0 : List (List SR)) (A1 : Option Addr) (c1 : Nat) (l1 : List SR) (one two : Int) (w : World) (hTab : Tab w)
    (hr0 : Kd.C (Kd.slice 31 kR) w A0 l0.length l0) (hc0 : l0.length ≤ c0) (hr1 : Kd.C kR w A1 l1.length l1) (hc1 : l1.length ≤ c1) (h2 : (Lit.int .u8 one).wf = true) (h3 : (Lit.int .u8 two).wf = true) (hbr : ∀ r ∈ l0, r.length ≤ BIG) :
    Calls Tryz.prog 5 #[.slice A0 l0.length c0, .slice A1 l1.length c1, .int .u8 one, .int .u8 two] w fun e w' => e = .returned (.bool true) ∧ Below w.heap.size w w' := by
  obtain ⟨ho, ho'⟩ := u8_wf h2
  obtain ⟨ht, ht'⟩ := u8_wf h3
  rcases sq_cases l0 l1 hr0.2.1 hr1.2.1 hbr with ⟨k, hk⟩ | ⟨hg, h8, k, hk⟩
  · exact dep_no A0 c0 l0 A1 c1 l1 one two k w hTab hr0 hc0 hr1 hc1 hk
  · obtain ⟨e1, e2, e3⟩ := goodA_parts hg
    have hsq : ∀ W, Below w.heap.size w W → Calls Tryz.prog 15 #[.slice A0 l1.length c0, .slice A1 l1.length c1] W fun e w' => e = .returned (.bool true) ∧ Below W.heap.size W w' := fun W hW => by
      have := customhouselaw19_square.calls k A0 c0 l0 A1 c1 l1 true W (hTab.below hW) (Kd.C_below hr0 hW) hc0 (Kd.C_below hr1 hW) hc1 hk
      rwa [e1] at this
    by_cases h0 : l1.length = 0
    · have := dep_zero_len A0 c0 A1 c1 one two w hTab (by rw [h0] at hsq; exact hsq)
      rw [e1, h0]; exact this
    · obtain ⟨As, cs, hH, hC⟩ := rows_cells2 hr0
      have hS : SysC w A0 A1 l1.length l0 l1 As cs := ⟨⟨fun h => by
          obtain ⟨b, off, eA, hb, hcc⟩ := hH (by omega)
          exact ⟨b, off, eA, hb, fun j hj => by have := hcc j (by omega); dsimp only at this ⊢; rw [(e3 j hj).1] at this; exact this⟩, fun j hj => by have := (hC j (by omega)).1; rwa [(e3 j hj).1] at this, fun j hj => (e3 j hj).1, hr1, rfl⟩,
        fun j hj => by have := (hC j (by omega)).2; rwa [(e3 j hj).1] at this, e1⟩
      rw [e1]
      have m1 := Int.emod_nonneg one (b := (l1.length : Int)) (by omega)
      have m2 := Int.emod_lt_of_pos one (b := (l1.length : Int)) (by omega)
      have m3 := Int.emod_nonneg two (b := (l1.length : Int)) (by omega)
      have m4 := Int.emod_lt_of_pos two (b := (l1.length : Int)) (by omega)
      have hi : one % (l1.length : Int) = ((one % (l1.length : Int)).toNat : Int) := by omega
      have hm : two % (l1.length : Int) = ((two % (l1.length : Int)).toNat : Int) := by omega
      have hin : (one % (l1.length : Int)).toNat < l1.length := by omega
      have hmn : (two % (l1.length : Int)).toNat < l1.length := by omega
      generalize (one % (l1.length : Int)).toNat = i at *
      generalize (two % (l1.length : Int)).toNat = m at *
      by_cases hne : i = m
      · subst hne
        rcases dep_zero hg hin with h | h
        · exact dep_eqz A0 c0 l0 A1 c1 l1 one two _ i As cs w hTab hsq hS hc1 h8 (by omega) ho ho' ht ht' hi hm hin 12 h (.inl rfl)
        · exact dep_eqz A0 c0 l0 A1 c1 l1 one two _ i As cs w hTab hsq hS hc1 h8 (by omega) ho ho' ht ht' hi hm hin 2 h (.inr rfl)
      · rcases dep_eq hg hin hmn hne with h | h
        · exact dep_ne A0 c0 l0 A1 c1 l1 one two _ i m As cs w hTab hsq hS hc1 h8 (by omega) ho ho' ht ht' hi hm hin hmn hne 12 h (.inl rfl)
        · exact dep_ne A0 c0 l0 A1 c1 l1 one two _ i m As cs w hTab hsq hS hc1 h8 (by omega) ho ho' ht ht' hi hm hin hmn hne 2 h (.inr rfl)
end Go.Proofs.YtmkanjcehhbmlaaGreatDoor.Pr
end

section
namespace Go.Proofs.YtmkanjcehhbmlaaGreatDoor.Pr
set_option linter.unusedSimpArgs false
set_option linter.unusedVariables false
open Go.RowKit Go.Shelf Go.Proofs.YtmkanjcehhbmlaaGreatDoorW.PrintWords Go.Proofs.YtmkanjcehhbmlaaGreatDoorW.PrintLast Go.Proofs.YtmkanjcehhbmlaaGreatDoorW.PrintMore Ga
/-- Rows that came in (read in the world w0), as elements. -/
def kOld (w0 : World) : Kd (List SR) where
  sz := 1
  E := []
  K := fun _ xs cs => ∃ A n c, n = xs.length ∧ cs = [.slice A n c] ∧ n ≤ c ∧ Kd.C kR w0 A n xs
  M := fun _ _ _ xs cs => ∃ A n c, n = xs.length ∧ cs = [.slice A n c] ∧ n ≤ c ∧ Kd.C kR w0 A n xs
  K_len := by rintro w x cs ⟨A, n, c, _, rfl, _⟩; rfl
  K_one := by
    rintro w x cs ⟨A, n, c, _, rfl, _⟩ u hu
    rw [List.mem_singleton.1 hu]; rfl
  K_below := fun _ h => h
  K_of_M := fun h => h
  M_mono := fun _ h => h
  M_bound := fun h => h
  M_move := fun _ h => h
  M_lower := fun _ h => h
/-- Read as rows of numbers in every later world. -/
theorem C_of_old {w0 W : World} {A : Option Addr} {n : Nat} {l : List (List SR)} (h : Kd.C (kOld w0) W A n l) (hb : Below w0.heap.size w0 W) : Kd.C (Kd.slice 31 kR) W A n l := by
  refine ⟨h.1, h.2.1, fun h0 => ?_⟩
  obtain ⟨ad, e, hc⟩ := h.2.2 h0
  refine ⟨ad, e, fun j p hj => ?_⟩
  obtain ⟨c, h1, ⟨A', n', c', e1, rfl, h3, h4⟩, h5⟩ := hc j p hj
  subst e1
  exact ⟨_, h1, ⟨A', c', rfl, h3, Kd.C_below h4 hb⟩, h5⟩
section
variable {α : Type} {d : Kd α} {e base : Nat} {ok : Nat → Prop} {W W1 : World} {v u u1 : Value} {xs : List α}
/-- Another row was appended to. -/
theorem R_other (h : Kd.R d e W base ok v xs) (hok : ∀ k, ok k → some k ≠ u.ownBlock) (hg : W.grownBy W1 u.ownBlock) (hat : u1.ownBlock = u.ownBlock ∨ ∃ b, u1.ownBlock = some b ∧ W.heap.size ≤ b) : Kd.R d e W1 base (fun k => ok k ∧ some k ≠ u1.ownBlock) v xs := by
  have h1 := Kd.R_grown (Kd.R_bound h) hg (fun k hk => hok k hk.1)
  refine Kd.R_mono h1 fun k hk => ⟨hk.1, ?_⟩
  rcases hat with e | ⟨b, e, hb⟩
  · rw [e]; exact hok k hk.1
  · rw [e]; intro e2; injection e2 with e2; have := hk.2.2.1; omega
theorem R_size (h : Kd.R d e W base ok v xs) : ∀ k, W.heap.size ≤ k → some k ≠ v.ownBlock := fun k hk e2 => by
  obtain ⟨inner, ho⟩ := Kd.R_own h
  have := own_lt ho k e2.symm
  omega
end
theorem nil_own (k : Nat) : some k ≠ (Value.slice none 0 0).ownBlock := by simp [Value.ownBlock]
/-- The four rows of LinearTurned: the equations back, the turned ones, the right sides, the row that is being made. -/
structure TS (w W : World) (v7 v8 v9 v11 : Value) (l7 l8 : List (List SR)) (l9 l11 : List SR) : Prop where
  r7 : Kd.R (kOld w) 23 W w.heap.size (fun k => some k ≠ v8.ownBlock ∧ some k ≠ v9.ownBlock ∧ some k ≠ v11.ownBlock) v7 l7
  r8 : Kd.R (Kd.slice 31 kR) 23 W w.heap.size (fun k => some k ≠ v7.ownBlock ∧ some k ≠ v9.ownBlock ∧ some k ≠ v11.ownBlock) v8 l8
  r9 : Kd.R kR 31 W w.heap.size (fun k => some k ≠ v7.ownBlock ∧ some k ≠ v8.ownBlock ∧ some k ≠ v11.ownBlock) v9 l9
  r11 : Kd.R kR 31 W w.heap.size (fun k => some k ≠ v7.ownBlock ∧ some k ≠ v8.ownBlock ∧ some k ≠ v9.ownBlock) v11 l11
  bel : Below w.heap.size w W
section
variable {w W W1 : World} {v7 v8 v9 v11 u : Value} {l7 l8 : List (List SR)} {l9 l11 : List SR}
theorem TS.app7 (h : TS w W v7 v8 v9 v11 l7 l8 l9 l11) {l7' : List (List SR)} (hR : Kd.R (kOld w) 23 W1 w.heap.size (fun k => some k ≠ v8.ownBlock ∧ some k ≠ v9.ownBlock ∧ some k ≠ v11.ownBlock) u l7') (hB : Below w.heap.size w W1) (hg : W.grownBy W1 v7.ownBlock) (hat : u.ownBlock = v7.ownBlock ∨ ∃ b, u.ownBlock = some b ∧ W.heap.size ≤ b) : TS w W1 u v8 v9 v11 l7' l8 l9 l11 :=
  ⟨hR, Kd.R_mono (R_other h.r8 (fun k hk => hk.1) hg hat) (fun k hk => ⟨hk.2, hk.1.2⟩), Kd.R_mono (R_other h.r9 (fun k hk => hk.1) hg hat) (fun k hk => ⟨hk.2, hk.1.2⟩), Kd.R_mono (R_other h.r11 (fun k hk => hk.1) hg hat) (fun k hk => ⟨hk.2, hk.1.2⟩), hB⟩
theorem TS.fresh7 (h : TS w W v7 v8 v9 v11 l7 l8 l9 l11) (k : Nat) (hk : W.heap.size ≤ k) : some k ≠ v8.ownBlock ∧ some k ≠ v9.ownBlock ∧ some k ≠ v11.ownBlock := ⟨R_size h.r8 k hk, R_size h.r9 k hk, R_size h.r11 k hk⟩
theorem TS.app9 (h : TS w W v7 v8 v9 v11 l7 l8 l9 l11) {l9' : List SR} (hR : Kd.R kR 31 W1 w.heap.size (fun k => some k ≠ v7.ownBlock ∧ some k ≠ v8.ownBlock ∧ some k ≠ v11.ownBlock) u l9') (hB : Below w.heap.size w W1) (hg : W.grownBy W1 v9.ownBlock) (hat : u.ownBlock = v9.ownBlock ∨ ∃ b, u.ownBlock = some b ∧ W.heap.size ≤ b) : TS w W1 v7 v8 u v11 l7 l8 l9' l11 :=
  ⟨Kd.R_mono (R_other h.r7 (fun k hk => hk.2.1) hg hat) (fun k hk => ⟨hk.1.1, hk.2, hk.1.2.2⟩), Kd.R_mono (R_other h.r8 (fun k hk => hk.2.1) hg hat) (fun k hk => ⟨hk.1.1, hk.2, hk.1.2.2⟩), hR, Kd.R_mono (R_other h.r11 (fun k hk => hk.2.2) hg hat) (fun k hk => ⟨hk.1.1, hk.1.2.1, hk.2⟩), hB⟩
theorem TS.fresh9 (h : TS w W v7 v8 v9 v11 l7 l8 l9 l11) (k : Nat) (hk : W.heap.size ≤ k) : some k ≠ v7.ownBlock ∧ some k ≠ v8.ownBlock ∧ some k ≠ v11.ownBlock := ⟨R_size h.r7 k hk, R_size h.r8 k hk, R_size h.r11 k hk⟩
theorem TS.app11 (h : TS w W v7 v8 v9 v11 l7 l8 l9 l11) {l11' : List SR} (hR : Kd.R kR 31 W1 w.heap.size (fun k => some k ≠ v7.ownBlock ∧ some k ≠ v8.ownBlock ∧ some k ≠ v9.ownBlock) u l11') (hB : Below w.heap.size w W1) (hg : W.grownBy W1 v11.ownBlock) (hat : u.ownBlock = v11.ownBlock ∨ ∃ b, u.ownBlock = some b ∧ W.heap.size ≤ b) : TS w W1 v7 v8 v9 u l7 l8 l9 l11' :=
  ⟨Kd.R_mono (R_other h.r7 (fun k hk => hk.2.2) hg hat) (fun k hk => ⟨hk.1.1, hk.1.2.1, hk.2⟩), Kd.R_mono (R_other h.r8 (fun k hk => hk.2.2) hg hat) (fun k hk => ⟨hk.1.1, hk.1.2.1, hk.2⟩), Kd.R_mono (R_other h.r9 (fun k hk => hk.2.2) hg hat) (fun k hk => ⟨hk.1.1, hk.1.2.1, hk.2⟩), hR, hB⟩
theorem TS.fresh11 (h : TS w W v7 v8 v9 v11 l7 l8 l9 l11) (k : Nat) (hk : W.heap.size ≤ k) : some k ≠ v7.ownBlock ∧ some k ≠ v8.ownBlock ∧ some k ≠ v9.ownBlock := ⟨R_size h.r7 k hk, R_size h.r8 k hk, R_size h.r9 k hk⟩
/-- The row is finished and appended: it is a part of the turned ones. -/
theorem TS.r8' (h : TS w W v7 v8 v9 v11 l7 l8 l9 l11) : Kd.R (Kd.slice 31 kR) 23 W w.heap.size (fun k => some k ≠ v7.ownBlock ∧ some k ≠ v9.ownBlock) v8 l8 := Kd.R_mono h.r8 fun k hk => ⟨hk.1, hk.2.1⟩
theorem TS.app8 (h : TS w W v7 v8 v9 v11 l7 l8 l9 l11) {l8' : List (List SR)} (hR : Kd.R (Kd.slice 31 kR) 23 W1 w.heap.size (fun k => some k ≠ v7.ownBlock ∧ some k ≠ v9.ownBlock) u l8') (hB : Below w.heap.size w W1) (hg : W.grownBy W1 v8.ownBlock) (hat : u.ownBlock = v8.ownBlock ∨ ∃ b, u.ownBlock = some b ∧ W.heap.size ≤ b) : TS w W1 v7 u v9 (.slice none 0 0) l7 l8' l9 [] :=
  ⟨Kd.R_mono (R_other h.r7 (fun k hk => hk.1) hg hat) (fun k hk => ⟨hk.2, hk.1.2.1, nil_own k⟩), Kd.R_mono hR (fun k hk => ⟨hk.1, hk.2, nil_own k⟩), Kd.R_mono (R_other h.r9 (fun k hk => hk.2.1) hg hat) (fun k hk => ⟨hk.1.1, hk.2, nil_own k⟩), Kd.R_nil _ _ _ _ _, hB⟩
theorem TS.start (hB : Below w.heap.size w W) : TS w W (.slice none 0 0) (.slice none 0 0) (.slice none 0 0) (.slice none 0 0) [] [] [] [] := ⟨Kd.R_nil _ _ _ _ _, Kd.R_nil _ _ _ _ _, Kd.R_nil _ _ _ _ _, Kd.R_nil _ _ _ _ _, hB⟩
end
end Go.Proofs.YtmkanjcehhbmlaaGreatDoor.Pr
end

section
namespace Go.Proofs.YtmkanjcehhbmlaaGreatDoor.Pr
set_option linter.unusedSimpArgs false
set_option linter.unusedVariables false
open Go.RowKit Go.Shelf Go.Proofs.YtmkanjcehhbmlaaGreatDoorW.PrintWords Go.Proofs.YtmkanjcehhbmlaaGreatDoorW.PrintLast Go.Proofs.YtmkanjcehhbmlaaGreatDoorW.PrintMore Ga
set_option maxRecDepth 100000 in
theorem turn_no (A0 : Option Addr) (c0 : Nat) (l0 : List (List SR)) (A1 : Option Addr) (c1 : Nat) (l1 : List SR) (k : Nat) (w : World) (hTab : Tab w)
    (hr0 : Kd.C (Kd.slice 31 kR) w A0 l0.length l0) (hc0 : l0.length ≤ c0) (hr1 : Kd.C kR w A1 l1.length l1) (hc1 : l1.length ≤ c1) (h : customhouselaw19_square.f k l0 l1 = some false) :
    Calls Tryz.prog 4 #[.slice A0 l0.length c0, .slice A1 l1.length c1] w fun e w' => e = .returned (.bool true) ∧ Below w.heap.size w w' := by
  have HT := Lib.hid hTab
  have HSQ := Lib.hid (fun W (hW : Below w.heap.size w W) => customhouselaw19_square.calls k A0 c0 l0 A1 c1 l1 false W (hTab.below hW) (Kd.C_below hr0 hW) hc0 (Kd.C_below hr1 hW) hc1 h)
  clear hTab hr0 hc0 hr1 hc1 h
  go_enter Tryz.func4, Tryz.ntmps4
  go_wp2_with (first | (go_at_call 10; with_reducible refine (customhouselaw19_head.calls true _ HT.out rfl).mono ?_; rintro e w1 ⟨rfl, hb⟩; have HB := Lib.hid hb; clear hb) | (go_at_call 15; with_reducible refine (HSQ.out _ HB.out).mono ?_; rintro e w2 ⟨rfl, hb2⟩; have HB2 := Lib.hid (HB.out.trans (hb2.mono HB.out.size)); clear hb2))
  go_ret
  exact ⟨rfl, HB2.out⟩
theorem sys_of {A0 A1 : Option Addr} {l0 : List (List SR)} {l1 : List SR} {w : World} (k c0 c1 : Nat) (hr0 : Kd.C (Kd.slice 31 kR) w A0 l0.length l0) (hc0 : l0.length ≤ c0) (hr1 : Kd.C kR w A1 l1.length l1) (hc1 : l1.length ≤ c1) (hg : goodA l0 l1 = true) (hTab : Tab w) (hk : customhouselaw19_square.f k l0 l1 = some true) :
    ∃ As cs, (∀ W, Below w.heap.size w W → Calls Tryz.prog 15 #[.slice A0 l1.length c0, .slice A1 l1.length c1] W fun e w' => e = .returned (.bool true) ∧ Below W.heap.size W w') ∧ SysC w A0 A1 l1.length l0 l1 As cs := by
  obtain ⟨e1, e2, e3⟩ := goodA_parts hg
  obtain ⟨As, cs, hH, hC⟩ := rows_cells2 hr0
  refine ⟨As, cs, fun W hW => ?_, ⟨⟨fun h => by
          obtain ⟨b, off, eA, hb, hcc⟩ := hH (by omega)
          exact ⟨b, off, eA, hb, fun j hj => by have := hcc j (by omega); dsimp only at this ⊢; rw [(e3 j hj).1] at this; exact this⟩, fun j hj => by have := (hC j (by omega)).1; rwa [(e3 j hj).1] at this, fun j hj => (e3 j hj).1, hr1, rfl⟩,
        fun j hj => by have := (hC j (by omega)).2; rwa [(e3 j hj).1] at this, e1⟩⟩
  have := customhouselaw19_square.calls k A0 c0 l0 A1 c1 l1 true W (hTab.below hW) (Kd.C_below hr0 hW) hc0 (Kd.C_below hr1 hW) hc1 hk
  rwa [e1] at this
/-- The first i of the equations back, and so on. -/
def upI (n i : Nat) (f : Nat → List SR) : List (List SR) := (List.range i).map f
theorem upI_snoc (n i : Nat) (f : Nat → List SR) : upI n i f ++ [f i] = upI n (i + 1) f := by unfold upI; rw [List.range_succ, List.map_append]; rfl
def upS (i : Nat) (f : Nat → SR) : List SR := (List.range i).map f
theorem upS_snoc (i : Nat) (f : Nat → SR) : upS i f ++ [f i] = upS (i + 1) f := by unfold upS; rw [List.range_succ, List.map_append]; rfl
theorem upS_len (i : Nat) (f : Nat → SR) : (upS i f).length = i := by unfold upS; simp
theorem upI_len (n i : Nat) (f : Nat → List SR) : (upI n i f).length = i := by unfold upI; simp
theorem linF_len (a : List (List SR)) (b : List SR) : (linF a b).1.length ≤ b.length := by
  rcases lin_cases a b with h | h | h | ⟨h, h0⟩
  · rw [h]; exact Nat.zero_le _
  · rw [h]; exact Nat.zero_le _
  · rw [h]; exact Nat.zero_le _
  · rcases linF_ok h with h | ⟨h, _⟩ | ⟨_, h, _⟩
    · rw [h]; exact Nat.zero_le _
    · rw [h]; exact Nat.zero_le _
    · omega
theorem sol_any {n c0 c1 : Nat} {A0 A1 : Option Addr} {L : List (List SR)} {l1 : List SR} {W : World} (hT : Tab W) (hC : Kd.C (Kd.slice 31 kR) W A0 n L) (hcap : n ≤ c0) (h1 : Kd.C kR W A1 n l1) (hc1 : n ≤ c1) (hn : n ≤ 8) (hr : ∀ j, j < n → (L.getD j []).length = n) (r : List SR × Int) (hres : linF L l1 = r) :
    Calls Tryz.prog 12 #[.slice A0 n c0, .slice A1 n c1] W fun e w' => ∃ (A : Option Addr) (c : Nat), e = .returned (.tuple #[.slice A r.1.length c, .int .i64 r.2]) ∧ r.1.length ≤ c ∧ Kd.C kR w' A r.1.length r.1 ∧ Below W.heap.size W w' := by
  have hL := hC.1
  have hl1 := h1.1
  have hs := solve_f (l0 := L) (l1 := l1) (by omega) (by omega) (fun j hj => by have := hr j (by omega); omega)
  have := linear_Solve.calls A0 c0 L A1 c1 l1 (linF L l1).1 (linF L l1).2 W hT (by rw [hL]; exact hC) (by rw [hL]; exact hcap) (by rw [hl1]; exact h1) (by rw [hl1]; exact hc1) hs
  rw [hL, hl1, hres] at this
  refine this.mono fun e w' ⟨v0, he, hR, hb⟩ => ?_
  obtain ⟨A, c, rfl, h2, h3⟩ := Kd.R_reads hR
  exact ⟨A, c, he, h2, h3, hb⟩
set_option maxRecDepth 100000 in
set_option maxHeartbeats 1000000 in
theorem turn_yes (A0 : Option Addr) (c0 : Nat) (l0 : List (List SR)) (A1 : Option Addr) (c1 : Nat) (l1 : List SR) (n : Nat) (As : Nat → Option Addr) (cs : Nat → Nat) (w : World) (hTab : Tab w)
    (hsq : ∀ W, Below w.heap.size w W → Calls Tryz.prog 15 #[.slice A0 n c0, .slice A1 n c1] W fun e w' => e = .returned (.bool true) ∧ Below W.heap.size W w')
    (hS : SysC w A0 A1 n l0 l1 As cs) (hr0 : Kd.C (Kd.slice 31 kR) w A0 n l0) (hc0 : n ≤ c0) (hc1 : n ≤ c1) (h8 : n ≤ 8) (hg : goodA l0 l1 = true) :
    Calls Tryz.prog 4 #[.slice A0 n c0, .slice A1 n c1] w fun e w' => e = .returned (.bool true) ∧ Below w.heap.size w w' := by
  have HT := Lib.hid hTab
  have HSQ := Lib.hid hsq
  have HS := Lib.hid hS
  have HR0 := Lib.hid hr0
  have HG := Lib.hid hg
  clear hTab hsq hS hr0 hg
  go_enter Tryz.func4, Tryz.ntmps4
  go_upto_region 7 with (first | (go_at_call 10; with_reducible refine (customhouselaw19_head.calls true _ HT.out rfl).mono ?_; rintro e w1 ⟨rfl, hb⟩; have HB := Lib.hid hb; clear hb) | (go_at_call 15; with_reducible refine (HSQ.out _ HB.out).mono ?_; rintro e w2 ⟨rfl, hb2⟩; have HB2 := Lib.hid (HB.out.trans (hb2.mono HB.out.size)); clear hb2))
  go_wp2_with fail
  have HT0 := Lib.hid (TS.start HB2.out)
  go_loopw [7, 8, 9, 10, 11, 12] (fun s7 s8 s9 s10 s11 s12 wr => ∃ i : Nat, i ≤ n ∧ s10 = .int .i64 i ∧ Hid (TS w wr s7 s8 s9 (.slice none 0 0) (upI n i fun j => l0.getD (n - 1 - j) []) (upI n i fun j => rightL (l0.getD j []) n) (upS i fun j => rdS l1 (n - 1 - j)) [])) (fun _ _ _ s10 _ _ _ => (n - intOf s10).toNat)
  case atStart => exact ⟨0, Nat.zero_le _, rfl, HT0⟩
  case round =>
    clear HT0
    obtain ⟨i, hi, rfl, HQ⟩ := hrel
    by_cases hlt : i < n
    · obtain ⟨b, off, rfl, hb0, hcA⟩ := HS.out.sys.hdr (by omega)
      have HB0 := Lib.hid hb0
      have HCA := Lib.hid hcA
      obtain ⟨A7, cap7, e7, _⟩ := Kd.R_reads HQ.out.r7
      obtain ⟨A8, cap8, e8, _⟩ := Kd.R_reads HQ.out.r8
      obtain ⟨A9, cap9, e9, _⟩ := Kd.R_reads HQ.out.r9
      rw [upI_len] at e7 e8
      rw [upS_len] at e9
      subst e7 e8 e9
      have q1 := (HQ.out.bel.cell (p := ⟨b, off + (n - 1 - i), none⟩) HB0.out).trans (HCA.out (n - 1 - i) (by omega))
      clear hb0 hcA
      have z1 : (0 : Int) ≤ (n : Int) - 1 - (i : Int) := by omega
      have z2 : (n : Int) - 1 - (i : Int) < (n : Int) := by omega
      have z3 : ((n : Int) - 1 - (i : Int)).toNat = n - 1 - i := by omega
      go_upto_region 11 with (at_builtin; refine Kd.R_append (kOld w) (w0 := w) w.heap.size rfl (.tmp 34) (.tmp 42) 22 23 (.slice none 0 0) 24 rfl Tryz.underlying22 infoRow rfl Nat.one_pos (by omega) (.slice A7 i cap7) (upI n i fun j => l0.getD (n - 1 - j) []) (l0.getD (n - 1 - i) []) [.slice (As (n - 1 - i)) n (cs (n - 1 - i))] _ (fun _ => False) rfl rfl ?aP (fun _ hk => hk.elim) HQ.out.fresh7 HQ.out.r7 HQ.out.bel HQ.out.bel.size ?aL ?_; (case aP => exact ⟨_, n, _, (HS.out.sys.len _ (by omega)).symm, rfl, HS.out.cap _ (by omega), HS.out.sys.row _ (by omega)⟩); (case aL => rw [upI_len]; omega); intro v7 W1 hR hB hg hat; have HQ1 := Lib.hid (HQ.out.app7 hR hB hg hat); rw [upI_snoc n i (fun j => l0.getD (n - 1 - j) [])] at HQ1; clear hR hB hg hat)
      obtain ⟨bb, offb, eb, hbb, hcB⟩ := rat_cells (xs := l1) (by rw [HS.out.sys.len1]; exact HS.out.sys.rhs) (by rw [HS.out.sys.len1]; omega)
      subst eb
      have HBB := Lib.hid hbb
      have HCB := Lib.hid (hcB (n - 1 - i) (by rw [HS.out.sys.len1]; omega))
      clear hbb hcB q1
      have q1 := (HQ1.out.bel.cell (p := ⟨bb, offb + (n - 1 - i) * 3, none⟩) HBB.out).trans HCB.out.1
      have q2 := (HQ1.out.bel.cell (p := ⟨bb, offb + (n - 1 - i) * 3 + 1, none⟩) HBB.out).trans HCB.out.2.1
      have q3 := (HQ1.out.bel.cell (p := ⟨bb, offb + (n - 1 - i) * 3 + 2, none⟩) HBB.out).trans HCB.out.2.2
      go_upto_region 12 with (at_builtin; refine Kd.R_append kR (w0 := w) w.heap.size rfl (.tmp 44) (.tmp 52) 23 31 (.agg #[(.bool false), (.string ⟨#[]⟩), (.string ⟨#[]⟩)]) 40 rfl Tryz.underlying23 info31 rfl (by decide) (by omega) (.slice A9 i cap9) (upS i fun j => rdS l1 (n - 1 - j)) (rdS l1 (n - 1 - i)) [.bool (rdS l1 (n - 1 - i)).f0, .string (rdS l1 (n - 1 - i)).f1, .string (rdS l1 (n - 1 - i)).f2] _ (fun _ => False) rfl rfl (k31_mkM _ _ _ _) (fun _ hk => hk.elim) HQ1.out.fresh9 HQ1.out.r9 HQ1.out.bel HQ1.out.bel.size ?aL ?_; (case aL => rw [upS_len]; omega); intro v9 W2 hR hB hg hat; have HQ2 := Lib.hid (HQ1.out.app9 hR hB hg hat); rw [upS_snoc i (fun j => rdS l1 (n - 1 - j))] at HQ2; clear hR hB hg hat)
      clear q1 q2 q3 z1 z2 z3 HQ HQ1
      go_wp2_with fail
      clear hi
      obtain ⟨ba, offa, hAa, hba, hcR⟩ := rat_cells (xs := l0.getD i []) (by rw [HS.out.sys.len i hlt]; exact HS.out.sys.row i hlt) (by rw [HS.out.sys.len i hlt]; omega)
      have HAA := Lib.hid hAa
      have HBA := Lib.hid hba
      have HCR := Lib.hid hcR
      clear hAa hba hcR
      obtain ⟨row, hrow⟩ : ∃ row, l0.getD i [] = row := ⟨_, rfl⟩
      have HRW := Lib.hid hrow
      rw [hrow] at HCR
      clear hrow
      obtain ⟨wo, hwo⟩ : ∃ wo : World, wo = W2 := ⟨_, rfl⟩
      have HQ3 : Hid (∃ v11, TS w wo v7 (.slice A8 i cap8) v9 v11 (upI n (i + 1) fun j => l0.getD (n - 1 - j) []) (upI n i fun j => rightL (l0.getD j []) n) (upS (i + 1) fun j => rdS l1 (n - 1 - j)) (upS 0 fun t => rdS row (n - 1 - t))) := Lib.hid ⟨_, by rw [hwo]; exact HQ2.out⟩
      go_loopw [11, 12] (fun s11 s12 wr => ∃ j : Nat, j ≤ n ∧ s12 = .int .i64 j ∧ Hid (TS w wr v7 (.slice A8 i cap8) v9 s11 (upI n (i + 1) fun j => l0.getD (n - 1 - j) []) (upI n i fun j => rightL (l0.getD j []) n) (upS (i + 1) fun j => rdS l1 (n - 1 - j)) (upS j fun t => rdS row (n - 1 - t)))) (fun _ s12 _ => (n - intOf s12).toNat)
      case atStart => exact ⟨0, Nat.zero_le _, rfl, HQ2⟩
      case round =>
        clear HQ2 HQ3 hwo
        obtain ⟨j, hj, rfl, HP⟩ := hrel
        obtain ⟨A11, cap11, e11, _⟩ := Kd.R_reads HP.out.r11
        rw [upS_len] at e11
        subst e11
        by_cases hltj : j < n
        · have q0 := (HP.out.bel.cell (p := ⟨b, off + i, none⟩) HB0.out).trans (HCA.out i hlt)
          rw [HAA.out] at q0
          have hc := HCR.out (n - 1 - j) (by rw [← HRW.out, HS.out.sys.len i hlt]; omega)
          have q1 := (HP.out.bel.cell (p := ⟨ba, offa + (n - 1 - j) * 3, none⟩) HBA.out).trans hc.1
          have q2 := (HP.out.bel.cell (p := ⟨ba, offa + (n - 1 - j) * 3 + 1, none⟩) HBA.out).trans hc.2.1
          have q3 := (HP.out.bel.cell (p := ⟨ba, offa + (n - 1 - j) * 3 + 2, none⟩) HBA.out).trans hc.2.2
          have z0 : (i : Int) < (n : Int) := by omega
          have z1 : (0 : Int) ≤ (n : Int) - 1 - (j : Int) := by omega
          have z2 : (n : Int) - 1 - (j : Int) < (n : Int) := by omega
          have z3 : ((n : Int) - 1 - (j : Int)).toNat = n - 1 - j := by omega
          clear hc
          go_wp2_with (at_builtin; refine Kd.R_append kR (w0 := w) w.heap.size rfl (.tmp 59) (.tmp 70) 23 31 (.agg #[(.bool false), (.string ⟨#[]⟩), (.string ⟨#[]⟩)]) 40 rfl Tryz.underlying23 info31 rfl (by decide) (by omega) (.slice A11 j cap11) (upS j fun t => rdS row (n - 1 - t)) (rdS row (n - 1 - j)) [.bool (rdS row (n - 1 - j)).f0, .string (rdS row (n - 1 - j)).f1, .string (rdS row (n - 1 - j)).f2] _ (fun _ => False) rfl rfl (k31_mkM _ _ _ _) (fun _ hk => hk.elim) HP.out.fresh11 HP.out.r11 HP.out.bel HP.out.bel.size ?aL ?_; (case aL => rw [upS_len]; omega); intro v11 W3 hR hB hg hat; have HP1 := Lib.hid (HP.out.app11 hR hB hg hat); rw [upS_snoc j (fun t => rdS row (n - 1 - t))] at HP1; clear hR hB hg hat)
          go_roundw
          case rel => exact ⟨j + 1, hltj, by go_num, HP1⟩
          case measure => simp only [intOf]; omega
        · obtain rfl : j = n := by omega
          go_wp2_with (at_builtin; refine Kd.R_append (Kd.slice 31 kR) (w0 := w) w.heap.size rfl (.tmp 72) (.tmp 74) 22 23 (.slice none 0 0) 24 rfl Tryz.underlying22 infoRow rfl Nat.one_pos (by omega) (.slice A8 i cap8) (upI j i fun t => rightL (l0.getD t []) j) (upS j fun t => rdS row (j - 1 - t)) [.slice A11 j cap11] _ _ rfl rfl ⟨_, rfl, HP.out.r11⟩ (fun k hk => ⟨⟨hk.1, hk.2.2⟩, hk.2.1⟩) (fun k hk => ⟨R_size HP.out.r7 k hk, R_size HP.out.r9 k hk⟩) HP.out.r8' HP.out.bel HP.out.bel.size ?aL ?_; (case aL => rw [upI_len]; omega); intro v8 W3 hR hB hg hat; have HP1 := Lib.hid (HP.out.app8 hR hB hg hat); clear hR hB hg hat)
          have e8 : (upI j i fun t => rightL (l0.getD t []) j) ++ [upS j fun t => rdS row (j - 1 - t)] = upI j (i + 1) fun t => rightL (l0.getD t []) j := by
            rw [← upI_snoc j i (fun t => rightL (l0.getD t []) j)]
            show _ = _ ++ [rightL (l0.getD i []) j]
            rw [HRW.out]; rfl
          rw [e8] at HP1
          clear e8
          go_roundw
          case rel => exact ⟨i + 1, hlt, by go_num, HP1⟩
          case measure => simp only [intOf]; omega
    · obtain rfl : n = i := by omega
      obtain ⟨A7, cap7, e7, hc7, hC7⟩ := Kd.R_reads HQ.out.r7
      obtain ⟨A8, cap8, e8, hc8, hC8⟩ := Kd.R_reads HQ.out.r8
      obtain ⟨A9, cap9, e9, hc9, hC9⟩ := Kd.R_reads HQ.out.r9
      rw [upI_len] at e7 e8 hc7 hc8 hC7 hC8
      rw [upS_len] at e9 hc9 hC9
      subst e7 e8 e9
      have HC7 := Lib.hid (C_of_old hC7 HQ.out.bel)
      have HC8 := Lib.hid hC8
      have HC9 := Lib.hid hC9
      have HBQ := Lib.hid HQ.out.bel
      obtain ⟨x, hx⟩ : ∃ x, linF l0 l1 = x := ⟨_, rfl⟩
      obtain ⟨y, hy⟩ : ∃ y, linF (upI n n fun j => l0.getD (n - 1 - j) []) (upS n fun j => rdS l1 (n - 1 - j)) = y := ⟨_, rfl⟩
      obtain ⟨z, hz⟩ : ∃ z, linF (upI n n fun j => rightL (l0.getD j []) n) l1 = z := ⟨_, rfl⟩
      have hxy : x.2 = 2 ∨ y.2 = 2 ∨ (x.2 = y.2 ∧ x.1 = y.1) := by
        have := back_same HG.out
        rw [HS.out.sys.len1, show backL l0 n = upI n n fun j => l0.getD (n - 1 - j) [] from rfl, show rightL l1 n = upS n fun j => rdS l1 (n - 1 - j) from rfl, hx, hy] at this
        exact this
      have hxz : x.2 = 2 ∨ z.2 = 2 ∨ (x.2 = z.2 ∧ x.1 = upS z.1.length fun j => rdS z.1 (z.1.length - 1 - j)) := by
        have := turn_same HG.out
        rw [HS.out.sys.len1, show turnL l0 n = upI n n fun j => rightL (l0.getD j []) n from rfl, hx, hz] at this
        exact this
      have hll : ∀ j, j < n → (l0.getD j []).length = n := HS.out.sys.len
      have HS1 := Lib.hid (fun W (hW : Below w.heap.size w W) => sol_any (c0 := c0) (HT.out.below hW) (Kd.C_below HR0.out hW) hc0 (Kd.C_below HS.out.sys.rhs hW) hc1 h8 hll x hx)
      have HS2 := Lib.hid (fun W (hW : Below wr.heap.size wr W) => sol_any (c0 := cap7) (c1 := cap9) (HT.out.below (HBQ.out.trans (hW.mono HBQ.out.size))) (Kd.C_below HC7.out hW) hc7 (Kd.C_below HC9.out hW) hc9 h8 (fun j hj => by unfold upI; rw [getD_range, if_pos hj]; exact hll _ (by omega)) y hy)
      have HS3 := Lib.hid (fun W (hW : Below wr.heap.size wr W) => sol_any (c0 := cap8) (c1 := c1) (HT.out.below (HBQ.out.trans (hW.mono HBQ.out.size))) (Kd.C_below HC8.out hW) hc8 (Kd.C_below HS.out.sys.rhs (HBQ.out.trans (hW.mono HBQ.out.size))) hc1 h8 (fun j hj => by unfold upI; rw [getD_range, if_pos hj]; unfold rightL; simp) z hz)
      have HZL : Hid (z.1.length ≤ n) := Lib.hid (by rw [← hz]; have := linF_len (upI n n fun j => rightL (l0.getD j []) n) l1; rwa [HS.out.sys.len1] at this)
      have HXY := Lib.hid hxy
      have HXZ := Lib.hid hxz
      clear hx hy hz hxy hxz hll hC7 hC8 hC9 HC7 HC8 HC9 HQ hc7 hc8 hc9 HR0 HSQ HG
      obtain ⟨x1, x2⟩ := x
      obtain ⟨y1, y2⟩ := y
      obtain ⟨z1, z2⟩ := z
      dsimp only at HXY HXZ HS1 HS2 HS3 HZL
      go_upto_region 19 with (go_at_call 12; with_reducible refine (HS1.out _ HBQ.out).mono ?_; rintro e W1 ⟨AX, cX, rfl, hcX, hCX, hb⟩; have HB1 := Lib.hid hb; have HCX := Lib.hid hCX; have HcX := Lib.hid hcX; clear hb hCX hcX)
      go_upto_region 20 with (go_at_call 12; with_reducible refine (HS2.out _ HB1.out).mono ?_; rintro e W2 ⟨AY, cY, rfl, hcY, hCY, hb⟩; have HB2' := Lib.hid (HB1.out.trans (hb.mono HB1.out.size)); have HX2 := Lib.hid (Kd.C_below HCX.out hb); have HCY := Lib.hid hCY; have HcY := Lib.hid hcY; clear hb hCY hcY)
      go_upto_region 21 with (go_at_call 12; with_reducible refine (HS3.out _ HB2'.out).mono ?_; rintro e W3 ⟨AZ, cZ, rfl, hcZ, hCZ, hb⟩; have HB3 := Lib.hid (HBQ.out.trans ((HB2'.out.trans (hb.mono HB2'.out.size)).mono HBQ.out.size)); have HX3 := Lib.hid (Kd.C_below HX2.out hb); have HY3 := Lib.hid (Kd.C_below HCY.out hb); have HZ3 := Lib.hid hCZ; have HcZ := Lib.hid hcZ; clear hb hCZ hcZ)
      clear HS1 HS2 HS3 HCX HX2 HCY HB1 HB2'
      have hm : z1.length ≤ 8 := by have := HZL.out; omega
      obtain ⟨m, hm'⟩ : ∃ m, z1.length = m := ⟨_, rfl⟩
      rw [hm'] at hm HZ3 HcZ HXZ ⊢
      have HM := Lib.hid hm'
      clear hm'
      go_wp2_with fail
      go_loopw [19, 20] (fun s19 s20 wr => ∃ t : Nat, t ≤ m ∧ s20 = .int .i64 ((m : Int) - 1 - (t : Int)) ∧ Hid (Below W3.heap.size W3 wr) ∧ Hid (Kd.R kR 31 wr W3.heap.size (fun _ => True) s19 (upS t fun u => rdS z1 (m - 1 - u)))) (fun _ s20 _ => (intOf s20 + 1).toNat)
      case atStart => exact ⟨0, Nat.zero_le _, by simp, Lib.hid (Below.refl _ _), Lib.hid (Kd.R_nil _ _ _ _ _)⟩
      case round =>
        obtain ⟨t, ht, rfl, HBW, HRW⟩ := hrel
        obtain ⟨A19, cap19, e19, hc19, hC19⟩ := Kd.R_reads HRW.out
        rw [upS_len] at e19 hc19 hC19
        subst e19
        by_cases hlt : t < m
        · obtain ⟨bz, offz, ez, hbz, hcz⟩ := rat_cells (xs := z1) (by rw [HM.out]; exact HZ3.out) (by rw [HM.out]; omega)
          subst ez
          have hc := hcz (m - 1 - t) (by rw [HM.out]; omega)
          have q1 := (HBW.out.cell (p := ⟨bz, offz + (m - 1 - t) * 3, none⟩) hbz).trans hc.1
          have q2 := (HBW.out.cell (p := ⟨bz, offz + (m - 1 - t) * 3 + 1, none⟩) hbz).trans hc.2.1
          have q3 := (HBW.out.cell (p := ⟨bz, offz + (m - 1 - t) * 3 + 2, none⟩) hbz).trans hc.2.2
          have HCC := Lib.hid hC19
          clear hc hbz hcz hC19
          have z1' : (0 : Int) ≤ (m : Int) - 1 - (t : Int) := by omega
          have z2' : (m : Int) - 1 - (t : Int) < (m : Int) := by omega
          have z3' : ((m : Int) - 1 - (t : Int)).toNat = m - 1 - t := by omega
          go_wp2_with (at_builtin; refine Kd.R_append kR (w0 := W3) W3.heap.size rfl (.tmp 101) (.tmp 106) 23 31 (.agg #[(.bool false), (.string ⟨#[]⟩), (.string ⟨#[]⟩)]) 40 rfl Tryz.underlying23 info31 rfl (by decide) (by omega) (.slice A19 t cap19) (upS t fun u => rdS z1 (m - 1 - u)) (rdS z1 (m - 1 - t)) [.bool (rdS z1 (m - 1 - t)).f0, .string (rdS z1 (m - 1 - t)).f1, .string (rdS z1 (m - 1 - t)).f2] (fun _ => True) (fun _ => False) rfl rfl (k31_mkM _ _ _ _) (fun _ hk => hk.elim) (fun _ _ => trivial) HRW.out HBW.out HBW.out.size ?aL ?_; (case aL => rw [upS_len]; omega); intro v19 W5 hR hB hg hat; have HP1 := Lib.hid hR; have HP2 := Lib.hid hB; rw [upS_snoc t (fun u => rdS z1 (m - 1 - u))] at HP1; clear hR hB hg hat)
          go_roundw
          case rel => exact ⟨t + 1, hlt, by congr 1; omega, HP2, HP1⟩
          case measure => simp only [intOf]; omega
        · obtain rfl : m = t := by omega
          have hr1 : ∃ k, customhouselaw19_same.f k x1 x2 y1 y2 = some true := (same2_ev x1 x2 y1 y2 HX3.out.2.1 HXY.out).rounds
          have hr2 : ∃ k, customhouselaw19_same.f k x1 x2 (upS m fun u => rdS z1 (m - 1 - u)) z2 = some true := (same2_ev x1 x2 _ z2 HX3.out.2.1 HXZ.out).rounds
          obtain ⟨k1, hk1⟩ := hr1
          obtain ⟨k2, hk2⟩ := hr2
          have HSA := Lib.hid (customhouselaw19_same.calls k1 AX cX x1 x2 AY cY y1 y2 true wr (Kd.C_below HX3.out HBW.out) HcX.out (Kd.C_below HY3.out HBW.out) HcY.out hk1)
          have hsb : ∀ W, Below wr.heap.size wr W → Calls Tryz.prog 16 #[.slice AX x1.length cX, .int .i64 x2, .slice A19 m cap19, .int .i64 z2] W fun e w' => e = .returned (.bool true) ∧ Drawn0 W w' := fun W hW => by
            have := customhouselaw19_same.calls k2 AX cX x1 x2 A19 cap19 (upS m fun u => rdS z1 (m - 1 - u)) z2 true W (Kd.C_below HX3.out (HBW.out.trans (hW.mono HBW.out.size))) HcX.out (by rw [upS_len]; exact Kd.C_below hC19 hW) (by rw [upS_len]; exact hc19) hk2
            rwa [upS_len] at this
          have HSB := Lib.hid hsb
          clear hsb hk1 hk2 hC19
          have hend : Below w.heap.size w wr := HB3.out.trans (HBW.out.mono HB3.out.size)
          have HEND := Lib.hid hend
          clear hend
          go_wp2_with (first | (go_at_call 16; with_reducible refine HSA.out.mono ?_; rintro e W5 ⟨rfl, hd⟩; have HD5 := Lib.hid hd.below; clear HSA hd) | (go_at_call 16; with_reducible refine (HSB.out _ HD5.out).mono ?_; rintro e W6 ⟨rfl, hd⟩; have HD6 := Lib.hid (HD5.out.trans (hd.below.mono HD5.out.size)); clear hd))
          go_ret
          exact ⟨rfl, HEND.out.trans (HD6.out.mono HEND.out.size)⟩
/-- LinearTurned returns true, whatever the arguments. -/
theorem turned_calls (A0 : Option Addr) (c0 : Nat) (l0 : List (List SR)) (A1 : Option Addr) (c1 : Nat) (l1 : List SR) (w : World) (hTab : Tab w)
    (hr0 : Kd.C (Kd.slice 31 kR) w A0 l0.length l0) (hc0 : l0.length ≤ c0) (hr1 : Kd.C kR w A1 l1.length l1) (hc1 : l1.length ≤ c1) (hbr : ∀ r ∈ l0, r.length ≤ BIG) :
    Calls Tryz.prog 4 #[.slice A0 l0.length c0, .slice A1 l1.length c1] w fun e w' => e = .returned (.bool true) ∧ Below w.heap.size w w' := by
  rcases sq_cases l0 l1 hr0.2.1 hr1.2.1 hbr with ⟨k, hk⟩ | ⟨hg, h8, k, hk⟩
  · exact turn_no A0 c0 l0 A1 c1 l1 k w hTab hr0 hc0 hr1 hc1 hk
  · obtain ⟨As, cs, hsq, hS⟩ := sys_of k c0 c1 hr0 hc0 hr1 hc1 hg hTab hk
    have e1 := (goodA_parts hg).1
    rw [e1]
    exact turn_yes A0 c0 l0 A1 c1 l1 l1.length As cs w hTab hsq hS (by rw [← e1]; exact hr0) (by omega) hc1 h8 hg
end Go.Proofs.YtmkanjcehhbmlaaGreatDoor.Pr
end

section
namespace Go.Proofs.YtmkanjcehhbmlaaGreatDoor.Pr
set_option linter.unusedSimpArgs false
set_option linter.unusedVariables false
open Go.RowKit Go.Shelf Go.Proofs.YtmkanjcehhbmlaaGreatDoorW.PrintWords Go.Proofs.YtmkanjcehhbmlaaGreatDoorW.PrintLast Go.Proofs.YtmkanjcehhbmlaaGreatDoorW.PrintMore Ga
theorem addS_calls (x p : SR) (w : World) (hT : Tab w) : Calls Tryz.prog 22 #[vS x, vS p] w fun e w' => e = .returned (.tuple #[vS (addS x p).1, .int .i64 (addS x p).2]) ∧ Below w.heap.size w w' := ratio_Add.calls _ _ _ _ _ _ _ _ _ _ w hT rfl
theorem validS_calls (x : SR) (w : World) (hT : Tab w) : Calls Tryz.prog 19 #[vS x] w fun e w' => e = .returned (.bool (vldS x)) ∧ Below w.heap.size w w' := ratio_Valid.calls 1 x.f0 x.f1 x.f2 (vldS x) w hT (by rw [valid_val]; rfl)
theorem zeroS_calls (x : SR) (w : World) : Calls Tryz.prog 20 #[vS x] w fun e w' => e = .returned (.bool (x.f1.toList == [48])) ∧ Below w.heap.size w w' := customhouseref19_Zero.calls x.f0 x.f1 x.f2 _ w rfl
theorem boxS_cells {W : World} {P : Nat} {s : SR} (h : BoxS W P s) : W.cell? ⟨P, 0, none⟩ = some (.bool s.f0) ∧ W.cell? ⟨P, 1, none⟩ = some (.string s.f1) ∧ W.cell? ⟨P, 2, none⟩ = some (.string s.f2) := by
  unfold BoxS at h
  refine ⟨?_, ?_, ?_⟩ <;> simp [World.cell?, h]
theorem vld_size {x : SR} (h : vldS x = true) : x.f1.size ≤ 300 ∧ x.f2.size ≤ 300 := by
  obtain ⟨h1, h2, _⟩ := vld_parts h
  unfold Sp.isNat Sp.isNatL at h1 h2
  simp only [Bool.and_eq_true, decide_eq_true_eq] at h1 h2
  exact ⟨by have := h1.1.1.2; simpa using this, by have := h2.1.1.2; simpa using this⟩
/-- Where LinearMultiples looks no further. -/
def MNo (n : Nat) (sq : Bool) (by_ : SR) : Prop := sq = false ∨ n < 2 ∨ vldS by_ = false ∨ (by_.f1.toList == [48]) = true ∨ 20 < by_.f1.size + by_.f2.size
set_option maxRecDepth 100000 in
set_option maxHeartbeats 1000000 in
theorem mult_no (A0 : Option Addr) (c0 : Nat) (A1 : Option Addr) (c1 m n : Nat) (by_ : SR) (one two : Int) (sq : Bool) (w : World) (hTab : Tab w) (hn : n ≤ BIG)
    (hsq : ∀ W, Below w.heap.size w W → Calls Tryz.prog 15 #[.slice A0 m c0, .slice A1 n c1] W fun e w' => e = .returned (.bool sq) ∧ Below W.heap.size W w')
    (h : MNo n sq by_) :
    Calls Tryz.prog 8 #[.slice A0 m c0, .slice A1 n c1, vS by_, .int .u8 one, .int .u8 two] w fun e w' => e = .returned (.bool true) ∧ Below w.heap.size w w' := by
  have HT := Lib.hid hTab
  have HSQ := Lib.hid hsq
  have hb1 : Hid (Below w.heap.size w (w.alloc (.cells #[.bool by_.f0, .string by_.f1, .string by_.f2] 31))) := Lib.hid ((Below.refl _ w).alloc (Nat.le_refl _) _)
  have hbx : Hid (BoxS (w.alloc (.cells #[.bool by_.f0, .string by_.f1, .string by_.f2] 31)) w.heap.size by_) := Lib.hid (World.alloc_heap_new w _)
  clear hTab hsq
  obtain ⟨vz, hvz⟩ : ∃ b, vldS by_ = b := ⟨_, rfl⟩
  obtain ⟨zz, hzz⟩ : ∃ b, (by_.f1.toList == [48]) = b := ⟨_, rfl⟩
  unfold MNo at h
  rw [hvz, hzz] at h
  have HV := Lib.hid hvz
  have HZ := Lib.hid hzz
  clear hvz hzz
  have hcase : (sq = false) ∨ (sq = true ∧ n < 2) ∨ (sq = true ∧ ¬ n < 2 ∧ vz = false) ∨ (sq = true ∧ ¬ n < 2 ∧ vz = true ∧ zz = true) ∨ (sq = true ∧ ¬ n < 2 ∧ vz = true ∧ zz = false ∧ 20 < by_.f1.size + by_.f2.size) := by
    cases sq <;> cases vz <;> cases zz <;> by_cases h2 : n < 2 <;> simp_all
  clear h
  rcases hcase with rfl | ⟨rfl, h2⟩ | ⟨rfl, h2, rfl⟩ | ⟨rfl, h2, rfl, rfl⟩ | ⟨rfl, h2, rfl, rfl, h3⟩
  · go_enter Tryz.func8, Tryz.ntmps8
    go_wp2_with (first | (go_at_call 10; with_reducible refine (customhouselaw19_head.calls true _ (HT.out.below hb1.out) rfl).mono ?_; rintro e w1 ⟨rfl, hb⟩; have HB := Lib.hid (hb1.out.trans (hb.mono hb1.out.size)); have HX := Lib.hid (hbx.out.below hb); clear hb) | (go_at_call 15; with_reducible refine (HSQ.out _ HB.out).mono ?_; rintro e w2 ⟨rfl, hb2⟩; have HB2 := Lib.hid (HB.out.trans (hb2.mono HB.out.size)); have HX2 := Lib.hid (HX.out.below hb2); clear hb2))
    go_ret
    exact ⟨rfl, HB2.out⟩
  · have h2' : (n : Int) < 2 := by omega
    go_enter Tryz.func8, Tryz.ntmps8
    go_wp2_with (first | (go_at_call 10; with_reducible refine (customhouselaw19_head.calls true _ (HT.out.below hb1.out) rfl).mono ?_; rintro e w1 ⟨rfl, hb⟩; have HB := Lib.hid (hb1.out.trans (hb.mono hb1.out.size)); have HX := Lib.hid (hbx.out.below hb); clear hb) | (go_at_call 15; with_reducible refine (HSQ.out _ HB.out).mono ?_; rintro e w2 ⟨rfl, hb2⟩; have HB2 := Lib.hid (HB.out.trans (hb2.mono HB.out.size)); have HX2 := Lib.hid (HX.out.below hb2); clear hb2))
    go_ret
    exact ⟨rfl, HB2.out⟩
  all_goals have h2' : ¬ (n : Int) < 2 := by omega
  all_goals clear h2
  all_goals try have h3s := (vld_size HV.out).1
  all_goals try have h3t := (vld_size HV.out).2
  all_goals
    go_enter Tryz.func8, Tryz.ntmps8
    go_wp2_with (first
      | (go_at_call 10; with_reducible refine (customhouselaw19_head.calls true _ (HT.out.below hb1.out) rfl).mono ?_; rintro e w1 ⟨rfl, hb⟩; have HB := Lib.hid (hb1.out.trans (hb.mono hb1.out.size)); have HX := Lib.hid (hbx.out.below hb); clear hb)
      | (go_at_call 15; with_reducible refine (HSQ.out _ HB.out).mono ?_; rintro e w2 ⟨rfl, hb2⟩; have HB2 := Lib.hid (HB.out.trans (hb2.mono HB.out.size)); have HX2 := Lib.hid (HX.out.below hb2); clear hb2; obtain ⟨x0, x1, x2⟩ := boxS_cells HX2.out)
      | (go_at_call 19; with_reducible refine (validS_calls by_ _ (HT.out.below HB2.out)).mono ?_; rw [HV.out]; rintro e w3 ⟨rfl, hb3⟩; have HB3 := Lib.hid (HB2.out.trans (hb3.mono HB2.out.size)); have HX3 := Lib.hid (HX2.out.below hb3); clear hb3; obtain ⟨y0, y1, y2⟩ := boxS_cells HX3.out)
      | (go_at_call 20; with_reducible refine (zeroS_calls by_ _).mono ?_; rw [HZ.out]; rintro e w4 ⟨rfl, hb4⟩; have HB4 := Lib.hid (HB3.out.trans (hb4.mono HB3.out.size)); have HX4 := Lib.hid (HX3.out.below hb4); clear hb4; obtain ⟨u0, u1, u2⟩ := boxS_cells HX4.out))
    go_ret
    exact ⟨rfl, by first | exact HB4.out | exact HB3.out⟩
/-- What LinearMultiples makes: the changed rows (row i is v: acc so far), the right sides, the box of the multiplier. -/
structure MS (w W : World) (PB g cap gr capr n i : Nat) (As : Nat → Option Addr) (cs : Nat → Nat) (by_ : SR) (v : Value) (acc rs : List SR) : Prop where
  own : W.ownsRow w.heap.size 23 1 (.slice (some ⟨g, 0, none⟩) n cap) n (hdrL n (fun j => if j = i then v else hdr0 n As cs j))
  row : Kd.R kR 31 W w.heap.size (fun b => b ≠ g ∧ b ≠ gr ∧ b ≠ PB) v acc
  rgt : W.ownsRow w.heap.size 31 3 (.slice (some ⟨gr, 0, none⟩) n capr) n (rowL rs)
  box : BoxS W PB by_
  bel : Below w.heap.size w W
  nePB : w.heap.size ≤ PB
  n1 : g ≠ gr
  n2 : g ≠ PB
  n3 : gr ≠ PB
section
variable {w W W1 : World} {PB g cap gr capr n i : Nat} {As : Nat → Option Addr} {cs : Nat → Nat} {by_ : SR} {v v1 : Value} {acc acc1 rs : List SR}
theorem MS.below (h : MS w W PB g cap gr capr n i As cs by_ v acc rs) (hb : Below W.heap.size W W1) : MS w W1 PB g cap gr capr n i As cs by_ v acc rs :=
  ⟨pw_own_below h.own hb, Kd.R_below h.row hb, pw_own_below h.rgt hb, h.box.below hb, h.bel.trans (hb.mono h.bel.size), h.nePB, h.n1, h.n2, h.n3⟩
theorem MS.lt (h : MS w W PB g cap gr capr n i As cs by_ v acc rs) : (w.heap.size ≤ g ∧ g < W.heap.size) ∧ (w.heap.size ≤ gr ∧ gr < W.heap.size) ∧ PB < W.heap.size :=
  ⟨h.own.lt g rfl, h.rgt.lt gr rfl, (Array.getElem?_eq_some_iff.1 h.box).1⟩
theorem MS.next (h : MS w W PB g cap gr capr n i As cs by_ v acc rs) (hR : Kd.R kR 31 W1 w.heap.size (fun b => b ≠ g ∧ b ≠ gr ∧ b ≠ PB) v1 acc1) (hB : Below w.heap.size w W1) (hg : W.grownBy W1 v.ownBlock) :
    W1.ownsRow w.heap.size 23 1 (.slice (some ⟨g, 0, none⟩) n cap) n (hdrL n (fun j => if j = i then v else hdr0 n As cs j)) ∧ MS w (W1.setCell ⟨g, i, none⟩ v1) PB g cap gr capr n i As cs by_ v1 acc1 rs := by
  have ho : W1.ownsRow w.heap.size 23 1 (.slice (some ⟨g, 0, none⟩) n cap) n (hdrL n (fun j => if j = i then v else hdr0 n As cs j)) := h.own.kept hg (.inr fun e => (h.row.1 g e.symm).1 rfl)
  have hr : W1.ownsRow w.heap.size 31 3 (.slice (some ⟨gr, 0, none⟩) n capr) n (rowL rs) := h.rgt.kept hg (.inr fun e => (h.row.1 gr e.symm).2.1 rfl)
  have hx : BoxS W1 PB by_ := (hg.block PB h.lt.2.2 (fun e => (h.row.1 PB e.symm).2.2 rfl)).trans h.box
  refine ⟨ho, ?_, Kd.R_far (p := ⟨g, i, none⟩) hR (fun _ h => h.1) v1, own_setCell hr (p := ⟨g, i, none⟩) (fun e => h.n1 (Option.some.inj e)) v1, (Below.heap_setCell _ ⟨g, i, none⟩ _ PB (fun e => h.n2 e.symm)).trans hx, hB.setCell (p := ⟨g, i, none⟩) h.lt.1.1 v1, h.nePB, h.n1, h.n2, h.n3⟩
  have := (ho.stored i v1).1
  rw [hdrL_set] at this
  have e : (fun j => if j = i then v1 else if j = i then v else hdr0 n As cs j) = (fun j => if j = i then v1 else hdr0 n As cs j) := by
    funext j; by_cases e : j = i
    · rw [if_pos e, if_pos e]
    · rw [if_neg e, if_neg e, if_neg e]
  rwa [e] at this
end
theorem boxZ {W : World} {P : Nat} (h : W.heap[P]? = some (.cells #[.bool false, .string ⟨#[]⟩, .string ⟨#[]⟩] 31 (0, 0))) : (W.cell? ⟨P, 0, none⟩ = some (.bool false) ∧ W.frozen? ⟨P, 0, none⟩ = false) ∧ (W.cell? ⟨P, 1, none⟩ = some (.string ⟨#[]⟩) ∧ W.frozen? ⟨P, 1, none⟩ = false) ∧ (W.cell? ⟨P, 2, none⟩ = some (.string ⟨#[]⟩) ∧ W.frozen? ⟨P, 2, none⟩ = false) := by
  refine ⟨⟨?_, ?_⟩, ⟨?_, ?_⟩, ⟨?_, ?_⟩⟩ <;> simp [World.cell?, World.frozen?, h]
theorem boxS_put {W : World} {P : Nat} (h : W.heap[P]? = some (.cells #[.bool false, .string ⟨#[]⟩, .string ⟨#[]⟩] 31 (0, 0))) (s : SR) : BoxS (((W.setCell ⟨P, 0, none⟩ (.bool s.f0)).setCell ⟨P, 1, none⟩ (.string s.f1)).setCell ⟨P, 2, none⟩ (.string s.f2)) P s :=
  blk_set (blk_set (blk_set h 0 _) 1 _) 2 _
theorem rowown_cells {W : World} {base gr n cap i : Nat} {rs : List SR} (h : W.ownsRow base 31 3 (.slice (some ⟨gr, 0, none⟩) n cap) n (rowL rs)) (hi : i < rs.length) :
    (W.cell? ⟨gr, i * 3, none⟩ = some (.bool (rdS rs i).f0) ∧ W.frozen? ⟨gr, i * 3, none⟩ = false) ∧ (W.cell? ⟨gr, i * 3 + 1, none⟩ = some (.string (rdS rs i).f1) ∧ W.frozen? ⟨gr, i * 3 + 1, none⟩ = false) ∧ (W.cell? ⟨gr, i * 3 + 2, none⟩ = some (.string (rdS rs i).f2) ∧ W.frozen? ⟨gr, i * 3 + 2, none⟩ = false) := by
  have hl : rs.length * 3 = n * 3 := by rw [← rowL_len]; exact h.1
  obtain ⟨g0, g1, g2⟩ := rowC_get rs i hi
  have e : ∀ j : Nat, (rowL rs)[j]? = (rowC rs)[j]? := fun j => by rw [rowC_L]; simp
  exact ⟨⟨by rw [h.cellAt _ (by omega), e, g0], h.frozenAt _⟩, ⟨by rw [h.cellAt _ (by omega), e, g1], h.frozenAt _⟩, ⟨by rw [h.cellAt _ (by omega), e, g2], h.frozenAt _⟩⟩
theorem rowown_put {W : World} {base gr n cap i : Nat} {rs : List SR} (h : W.ownsRow base 31 3 (.slice (some ⟨gr, 0, none⟩) n cap) n (rowL rs)) (hi : i < rs.length) (s : SR) :
    (((W.setCell ⟨gr, i * 3, none⟩ (.bool s.f0)).setCell ⟨gr, i * 3 + 1, none⟩ (.string s.f1)).setCell ⟨gr, i * 3 + 2, none⟩ (.string s.f2)).ownsRow base 31 3 (.slice (some ⟨gr, 0, none⟩) n cap) n (rowL (rs.set i s)) := by
  have h1 := (((h.stored (i * 3) (.bool s.f0)).1.stored (i * 3 + 1) (.string s.f1)).1.stored (i * 3 + 2) (.string s.f2)).1
  have e : (((rowL rs).set (i * 3) (.bool s.f0)).set (i * 3 + 1) (.string s.f1)).set (i * 3 + 2) (.string s.f2) = rowL (rs.set i s) := by
    have := congrArg Array.toList (rowC_set rs i s hi)
    rw [rowC_L, rowC_L] at this
    simpa using this
  rwa [e] at h1
theorem C_of_row {W : World} {base gr n cap : Nat} {rs : List SR} (h : W.ownsRow base 31 3 (.slice (some ⟨gr, 0, none⟩) n cap) n (rowL rs)) (hn : n ≤ 9223372036854775807) : Kd.C kR W (some ⟨gr, 0, none⟩) n rs := by
  have hl : rs.length = n := by have := h.1; rw [rowL_len] at this; omega
  refine ⟨hl, hn, fun _ => ⟨⟨gr, 0, none⟩, rfl, fun j p hj => ?_⟩⟩
  have hjl : j < rs.length := (List.getElem?_eq_some_iff.1 hj).1
  have hp : rdS rs j = p := by unfold rdS; rw [List.getD_eq_getElem?_getD, hj]; rfl
  obtain ⟨⟨g0, _⟩, ⟨g1, _⟩, ⟨g2, _⟩⟩ := rowown_cells h hjl
  rw [hp] at g0 g1 g2
  refine ⟨[.bool p.f0, .string p.f1, .string p.f2], rfl, k31_mk W p, fun m u hu => ?_⟩
  rw [add_block, Nat.zero_add]
  match m, hu with
  | 0, hu => injection hu with hu; subst hu; exact g0
  | 1, hu => injection hu with hu; subst hu; exact g1
  | 2, hu => injection hu with hu; subst hu; exact g2
theorem below_put3 {B : Nat} {w W : World} (h : Below B w W) {P : Nat} (hP : B ≤ P) (a b c : Value) : Below B w (((W.setCell ⟨P, 0, none⟩ a).setCell ⟨P, 1, none⟩ b).setCell ⟨P, 2, none⟩ c) :=
  ((h.setCell (p := ⟨P, 0, none⟩) hP a).setCell (p := ⟨P, 1, none⟩) hP b).setCell (p := ⟨P, 2, none⟩) hP c
/-- An element of the changed row: its product, then its sum. -/
def mP (l0 : List (List SR)) (by_ : SR) (i j : Nat) : SR × Int := mulS (rdS (l0.getD i []) j) by_
def mA (l0 : List (List SR)) (by_ : SR) (i k j : Nat) : SR × Int := addS (mP l0 by_ i j).1 (rdS (l0.getD k []) j)
set_option maxRecDepth 100000 in
set_option maxHeartbeats 1000000 in
theorem mult_yes (A0 : Option Addr) (c0 : Nat) (l0 : List (List SR)) (A1 : Option Addr) (c1 : Nat) (l1 : List SR) (by_ : SR) (one two : Int) (n i k : Nat) (As : Nat → Option Addr) (cs : Nat → Nat) (w : World) (hTab : Tab w)
    (hsq : ∀ W, Below w.heap.size w W → Calls Tryz.prog 15 #[.slice A0 n c0, .slice A1 n c1] W fun e w' => e = .returned (.bool true) ∧ Below W.heap.size W w')
    (hS : SysC w A0 A1 n l0 l1 As cs) (hr0 : Kd.C (Kd.slice 31 kR) w A0 n l0) (hc0 : n ≤ c0) (hc1 : n ≤ c1) (h8 : n ≤ 8) (h2 : 2 ≤ n) (hg : goodA l0 l1 = true)
    (hv : vldS by_ = true) (hz : (by_.f1.toList == [48]) = false) (hsz : by_.f1.size + by_.f2.size ≤ 20)
    (ho : 0 ≤ one) (ho' : one < 256) (ht : 0 ≤ two) (ht' : two < 256) (hi : one % (n : Int) = (i : Int)) (hk : ((i : Int) + 1 + two % ((n : Int) - 1)) % (n : Int) = (k : Int)) (hk2 : 0 ≤ two % ((n : Int) - 1)) (hk3 : two % ((n : Int) - 1) < 256) (hin : i < n) (hkn : k < n) (hne : i ≠ k) :
    Calls Tryz.prog 8 #[.slice A0 n c0, .slice A1 n c1, vS by_, .int .u8 one, .int .u8 two] w fun e w' => e = .returned (.bool true) ∧ Below w.heap.size w w' := by
  have HT := Lib.hid hTab
  have HSQ := Lib.hid hsq
  have HS := Lib.hid hS
  have HR0 := Lib.hid hr0
  have HG := Lib.hid hg
  have HV := Lib.hid hv
  have HZ := Lib.hid hz
  have HI := Lib.hid hi
  have HK := Lib.hid hk
  have hb1 : Hid (Below w.heap.size w (w.alloc (.cells #[.bool by_.f0, .string by_.f1, .string by_.f2] 31))) := Lib.hid ((Below.refl _ w).alloc (Nat.le_refl _) _)
  have hbx : Hid (BoxS (w.alloc (.cells #[.bool by_.f0, .string by_.f1, .string by_.f2] 31)) w.heap.size by_) := Lib.hid (World.alloc_heap_new w _)
  have h2' : ¬ (n : Int) < 2 := by omega
  clear hTab hsq hS hr0 hg hv hz hi hk
  go_enter Tryz.func8, Tryz.ntmps8
  go_upto_region 5 with (first
      | (go_at_call 10; with_reducible refine (customhouselaw19_head.calls true _ (HT.out.below hb1.out) rfl).mono ?_; rintro e w1 ⟨rfl, hb⟩; have HB := Lib.hid (hb1.out.trans (hb.mono hb1.out.size)); have HX := Lib.hid (hbx.out.below hb); clear hb)
      | (go_at_call 15; with_reducible refine (HSQ.out _ HB.out).mono ?_; rintro e w2 ⟨rfl, hb2⟩; have HB2 := Lib.hid (HB.out.trans (hb2.mono HB.out.size)); have HX2 := Lib.hid (HX.out.below hb2); clear hb2; obtain ⟨x0, x1, x2⟩ := boxS_cells HX2.out)
      | (go_at_call 19; with_reducible refine (validS_calls by_ _ (HT.out.below HB2.out)).mono ?_; rw [HV.out]; rintro e w3 ⟨rfl, hb3⟩; have HB3 := Lib.hid (HB2.out.trans (hb3.mono HB2.out.size)); have HX3 := Lib.hid (HX2.out.below hb3); clear hb3; obtain ⟨y0, y1, y2⟩ := boxS_cells HX3.out)
      | (go_at_call 20; with_reducible refine (zeroS_calls by_ _).mono ?_; rw [HZ.out]; rintro e w4 ⟨rfl, hb4⟩; have HB4 := Lib.hid (HB3.out.trans (hb4.mono HB3.out.size)); have HX4 := Lib.hid (HX3.out.below hb4); clear hb4; obtain ⟨u0, u1, u2⟩ := boxS_cells HX4.out))
  clear u0 u1 u2 x0 x1 x2 y0 y1 y2 HX HX2 HX3 HB HB2 HB3 HSQ
  go_upto_region 6 with fail
  rw [HI.out]
  have k0 : (0 : Int) ≤ two % ((n : Int) - 1) := hk2
  go_upto_region 7 with fail
  rw [HK.out]
  clear k0
  obtain ⟨i0, hf0, hf1, hf2, hf3⟩ := info_parts infoRow
  obtain ⟨j0, hj0, hj1, hj2, hj3⟩ := info_parts info31
  obtain ⟨b, off, rfl, hb0, hcA⟩ := HS.out.sys.hdr (by omega)
  have HCA := Lib.hid hcA
  have HB0 := Lib.hid hb0
  obtain ⟨bb, offb, eb, hbb, hcB⟩ := rat_cells (xs := l1) (by rw [HS.out.sys.len1]; exact HS.out.sys.rhs) (by rw [HS.out.sys.len1]; omega)
  subst eb
  have HBB := Lib.hid hbb
  have HCB := Lib.hid hcB
  clear hb0 hcA hbb hcB
  go_upto_region 8 with (at_builtin; refine wpList_append_own_at _ rfl _ _ 22 rfl w.heap.size 23 i0 (.slice none 0 0) 1 24 Tryz.underlying22 hf0 hf1 hf2 hf3 rfl (by decide) _ 0 [] rfl ?own _ n c0 (hdrL n (hdr0 n As cs)) rfl ?hl ?hnews ?hone ?c3 ?c4 ?c5 ?_; (case own => exact World.ownsRow_lit w4 #[] 0 HB4.out.size (by decide) rfl); (case hl => rw [hdrL_len, Nat.mul_one]); (case hnews => intro j u hu; obtain ⟨hj, rfl⟩ := hdrL_get' hu; rw [add_block]; exact ((HB4.out.alloc HB4.out.size _).cell (p := ⟨b, off + j, none⟩) HB0.out).trans (HCA.out j hj)); (case hone => exact hdrL_one _ _ fun _ _ => rfl); (case c3 => unfold maxLen; omega); (case c4 => omega); (case c5 => have := HB4.out.size; simp; omega); intro v1 W1 hown hg _ hat)
  rw [List.nil_append, Nat.zero_add] at hown
  have hB1 : Below w.heap.size w W1 := (HB4.out.alloc HB4.out.size _).grown hg (by have := HB4.out.size; simp; omega) (fun k hk => by have e : w4.heap.size = k := Option.some.inj hk; have := HB4.out.size; omega)
  have hX1 : BoxS W1 w.heap.size by_ := by
    have h1 : BoxS (w4.alloc (.cells #[] 23)) w.heap.size by_ := HX4.out.below ((Below.refl _ w4).alloc (Nat.le_refl _) _)
    have hlt : w.heap.size < w4.heap.size := (Array.getElem?_eq_some_iff.1 HX4.out).1
    exact (hg.block _ (by simp; omega) (fun e => by have e : w.heap.size = w4.heap.size := Option.some.inj e; omega)).trans h1
  obtain ⟨g, cap, rfl, hgb, hgl⟩ := hown.form (by omega)
  have hgne : g ≠ w.heap.size := by
    rcases hat with e | e
    · have e : g = w4.heap.size := Option.some.inj e
      have hlt : w.heap.size < w4.heap.size := (Array.getElem?_eq_some_iff.1 HX4.out).1
      omega
    · have e : g = (w4.alloc (.cells #[] 23)).heap.size := Option.some.inj e
      have hlt : w.heap.size < w4.heap.size := (Array.getElem?_eq_some_iff.1 HX4.out).1
      simp at e; omega
  have HOWN := Lib.hid hown
  have HB5 := Lib.hid hB1
  have HX5 := Lib.hid hX1
  clear hg hat hown hB1 hX1 HB4 HX4
  go_upto_region 9 with (at_builtin; refine wpList_append_own_at _ rfl _ _ 23 rfl w.heap.size 31 j0 (.agg #[(.bool false), (.string ⟨#[]⟩), (.string ⟨#[]⟩)]) 3 40 Tryz.underlying23 hj0 hj1 hj2 hj3 rfl (by decide) _ 0 [] rfl ?own _ n c1 (rowL l1) rfl ?hl ?hnews ?hone ?c3 ?c4 ?c5 ?_; (case own => exact World.ownsRow_lit W1 #[] 0 HB5.out.size (by decide) rfl); (case hl => rw [rowL_len, HS.out.sys.len1]); (case hnews => exact row_src (w := W1.alloc (.cells #[] 31)) (fun j hj => ⟨((HB5.out.alloc HB5.out.size _).cell (p := ⟨bb, offb + j * 3, none⟩) HBB.out).trans (HCB.out j hj).1, ((HB5.out.alloc HB5.out.size _).cell (p := ⟨bb, offb + j * 3 + 1, none⟩) HBB.out).trans (HCB.out j hj).2.1, ((HB5.out.alloc HB5.out.size _).cell (p := ⟨bb, offb + j * 3 + 2, none⟩) HBB.out).trans (HCB.out j hj).2.2⟩)); (case hone => exact rowL_one _); (case c3 => unfold maxLen; omega); (case c4 => omega); (case c5 => have := HB5.out.size; simp; omega); intro v2 W2 hown hg _ hat)
  rw [List.nil_append, Nat.zero_add] at hown
  obtain ⟨gr, capr, rfl, hgrb, hgrl⟩ := hown.form (by omega)
  have hfr : W1.heap.size ≤ gr := by
    rcases hat with e | e
    · have e : gr = W1.heap.size := Option.some.inj e
      omega
    · have e : gr = (W1.alloc (.cells #[] 31)).heap.size := Option.some.inj e
      simp at e; omega
  have hPB : w.heap.size < W1.heap.size := (Array.getElem?_eq_some_iff.1 HX5.out).1
  have hMS : MS w (W2.setCell ⟨g, i, none⟩ (.slice none 0 0)) w.heap.size g cap gr capr n i As cs by_ (.slice none 0 0) (upS 0 fun t => (mA l0 by_ i k t).1) l1 := by
    have ho : W2.ownsRow w.heap.size 23 1 (.slice (some ⟨g, 0, none⟩) n cap) n (hdrL n (hdr0 n As cs)) := (HOWN.out.alloc _).kept hg (.inr fun e => by have e : g = W1.heap.size := Option.some.inj e; omega)
    have hx : BoxS W2 w.heap.size by_ := by
      have h1 : BoxS (W1.alloc (.cells #[] 31)) w.heap.size by_ := HX5.out.below ((Below.refl _ W1).alloc (Nat.le_refl _) _)
      exact (hg.block _ (by simp; omega) (fun e => by have e : w.heap.size = W1.heap.size := Option.some.inj e; omega)).trans h1
    have hB : Below w.heap.size w W2 := (HB5.out.alloc HB5.out.size _).grown hg (by have := HB5.out.size; simp; omega) (fun k hk => by have e : W1.heap.size = k := Option.some.inj hk; have := HB5.out.size; omega)
    refine ⟨?_, Kd.R_nil _ _ _ _ _, own_setCell hown (p := ⟨g, i, none⟩) (fun e => by have e : g = gr := Option.some.inj e; omega) _, (Below.heap_setCell _ ⟨g, i, none⟩ _ _ (fun e => hgne e.symm)).trans hx, hB.setCell (p := ⟨g, i, none⟩) hgb _, Nat.le_refl _, by omega, hgne, by omega⟩
    have := (ho.stored i (.slice none 0 0)).1
    rw [hdrL_set] at this
    exact this
  have HMS := Lib.hid hMS
  have q : W2.cell? ⟨g, i, none⟩ = some (hdr0 n As cs i) ∧ W2.frozen? ⟨g, i, none⟩ = false := own_cell ((HOWN.out.alloc (.cells #[] 31)).kept hg (.inr fun e => by have e : g = W1.heap.size := Option.some.inj e; omega)) hin
  obtain ⟨q1, q2⟩ := q
  have q0 : (i : Int) < (n : Int) := by omega
  clear hMS hown hg hat hfr hPB HOWN HB5 HX5 hgrb hgrl
  go_upto_region 10 with fail
  clear q1 q2
  go_wp2_with fail
  go_loopw [17, 18, 19, 20, 21] (fun s17 s18 s19 s20 s21 wr => ∃ j : Nat, j ≤ n ∧ s17 = .int .i64 j ∧ ∃ v, Hid (MS w wr w.heap.size g cap gr capr n i As cs by_ v (upS j fun t => (mA l0 by_ i k t).1) l1) ∧ Hid (∀ t, t < j → (mP l0 by_ i t).2 = 0 ∧ (mA l0 by_ i k t).2 = 0)) (fun s17 _ _ _ _ _ => (n - intOf s17).toNat)
  case atStart => exact ⟨0, Nat.zero_le _, rfl, _, HMS, Lib.hid (fun t ht => absurd ht (by omega))⟩
  case round =>
    clear HMS
    obtain ⟨j, hj, rfl, v, HZ', HE⟩ := hrel
    by_cases hlt : j < n
    · obtain ⟨ba, offa, hAa, hba, hcR⟩ := rat_cells (xs := l0.getD i []) (by rw [HS.out.sys.len i hin]; exact HS.out.sys.row i hin) (by rw [HS.out.sys.len i hin]; omega)
      obtain ⟨bk, offk, hAk, hbk, hcK⟩ := rat_cells (xs := l0.getD k []) (by rw [HS.out.sys.len k hkn]; exact HS.out.sys.row k hkn) (by rw [HS.out.sys.len k hkn]; omega)
      have hci := hcR j (by rw [HS.out.sys.len i hin]; exact hlt)
      have hck := hcK j (by rw [HS.out.sys.len k hkn]; exact hlt)
      obtain ⟨xi, hxi⟩ : ∃ x, rdS (l0.getD i []) j = x := ⟨_, rfl⟩
      obtain ⟨xk, hxk⟩ : ∃ x, rdS (l0.getD k []) j = x := ⟨_, rfl⟩
      rw [hxi] at hci
      rw [hxk] at hck
      have hPlt := HZ'.out.lt.2.2
      have hold : ∀ {B o : Nat} {u : Value} {W : World}, B < w.heap.size → w.cell? ⟨B, o, none⟩ = some u → Below wr.heap.size wr W → W.cell? ⟨B, o, none⟩ = some u := fun {B o u W} h1 h2 h3 => ((HZ'.out.bel.trans (h3.mono HZ'.out.bel.size)).cell (p := ⟨B, o, none⟩) h1).trans h2
      have HK1 : Hid (∀ W, Below wr.heap.size wr W → W.cell? ⟨b, off + i, none⟩ = some (.slice (some ⟨ba, offa, none⟩) n (cs i)) ∧ W.cell? ⟨ba, offa + j * 3, none⟩ = some (.bool xi.f0) ∧ W.cell? ⟨ba, offa + j * 3 + 1, none⟩ = some (.string xi.f1) ∧ W.cell? ⟨ba, offa + j * 3 + 2, none⟩ = some (.string xi.f2) ∧ W.cell? ⟨w.heap.size, 0, none⟩ = some (.bool by_.f0) ∧ W.cell? ⟨w.heap.size, 1, none⟩ = some (.string by_.f1) ∧ W.cell? ⟨w.heap.size, 2, none⟩ = some (.string by_.f2)) := Lib.hid fun W hW =>
        ⟨by rw [← hAa]; exact hold HB0.out (HCA.out i hin) hW, hold hba hci.1 hW, hold hba hci.2.1 hW, hold hba hci.2.2 hW, (boxS_cells (HZ'.out.box.below hW)).1, (boxS_cells (HZ'.out.box.below hW)).2.1, (boxS_cells (HZ'.out.box.below hW)).2.2⟩
      have HK2 : Hid (∀ W, Below wr.heap.size wr W → W.cell? ⟨b, off + k, none⟩ = some (.slice (some ⟨bk, offk, none⟩) n (cs k)) ∧ W.cell? ⟨bk, offk + j * 3, none⟩ = some (.bool xk.f0) ∧ W.cell? ⟨bk, offk + j * 3 + 1, none⟩ = some (.string xk.f1) ∧ W.cell? ⟨bk, offk + j * 3 + 2, none⟩ = some (.string xk.f2)) := Lib.hid fun W hW =>
        ⟨by rw [← hAk]; exact hold HB0.out (HCA.out k hkn) hW, hold hbk hck.1 hW, hold hbk hck.2.1 hW, hold hbk hck.2.2 hW⟩
      have HTW : Hid (∀ W, Below wr.heap.size wr W → Tab W) := Lib.hid fun W hW => HT.out.below (HZ'.out.bel.trans (hW.mono HZ'.out.bel.size))
      have HP : Hid (mP l0 by_ i j = mulS xi by_) := Lib.hid (by unfold mP; rw [hxi])
      have HA : Hid (mA l0 by_ i k j = addS (mulS xi by_).1 xk) := Lib.hid (by unfold mA mP; rw [hxi, hxk])
      clear hci hck hcR hcK hAa hAk hba hbk hxi hxk hold hPlt
      obtain ⟨pr, hpr⟩ : ∃ p, mulS xi by_ = p := ⟨_, rfl⟩
      rw [hpr] at HP HA
      have HPR := Lib.hid hpr
      clear hpr
      have i0' : (i : Int) < (n : Int) := by omega
      have i1' : (j : Int) < (n : Int) := by omega
      have i2' : (k : Int) < (n : Int) := by omega
      go_upto_region 13 with fail
      go_cut [18, 19] (fun s18 s19 wx => ∃ P, s18 = .pointer (some ⟨P, 0, none⟩) ∧ s19 = .int .i64 pr.2 ∧ Hid (BoxS wx P pr.1) ∧ Hid (Below wr.heap.size wr wx) ∧ Hid (wr.heap.size ≤ P))
      case first =>
        have HKd := Lib.hid (HK1.out _ (below_drew1 (Below.refl _ wr)))
        have HKa := Lib.hid (HK1.out _ (below_drew1 (below_alloc (Below.refl _ wr) (.cells #[.bool false, .string ⟨#[]⟩, .string ⟨#[]⟩] 31))))
        go_region_held3 (fun W => W.cell? ⟨b, off + i, none⟩ = some (.slice (some ⟨ba, offa, none⟩) n (cs i)) ∧ W.cell? ⟨ba, offa + j * 3, none⟩ = some (.bool xi.f0) ∧ W.cell? ⟨ba, offa + j * 3 + 1, none⟩ = some (.string xi.f1) ∧ W.cell? ⟨ba, offa + j * 3 + 2, none⟩ = some (.string xi.f2) ∧ W.cell? ⟨w.heap.size, 0, none⟩ = some (.bool by_.f0) ∧ W.cell? ⟨w.heap.size, 1, none⟩ = some (.string by_.f1) ∧ W.cell? ⟨w.heap.size, 2, none⟩ = some (.string by_.f2))
          (with_reducible first | exact HKd.out | exact HKa.out | exact HK5.out | exact HK5a.out | exact HK5s.out | exact HK5as.out | fail)
          ((go_at_call 21; (with_reducible refine (mulS_calls xi by_ _ (HTW.out _ (by repeat (with_reducible first | exact Below.refl _ _ | apply below_alloc | apply below_drew1)))).mono ?_); rw [HPR.out]; rintro e w5 ⟨rfl, hb5⟩; have HB5 : Hid (Below wr.heap.size wr w5) := Lib.hid (below_then (by repeat (with_reducible first | exact Below.refl _ _ | apply below_alloc | apply below_drew1)) (by simp) hb5); (try (have gx : w5.heap[wr.heap.size]? = some (.cells #[.bool false, .string ⟨#[]⟩, .string ⟨#[]⟩] 31 (0, 0)) := (hb5.block _ (by simp)).trans (World.alloc_heap_new wr _); obtain ⟨gx0, gx1, gx2⟩ := boxZ gx; have GX := Lib.hid gx; clear gx)); clear hb5; have HK5 := Lib.hid (HK1.out _ HB5.out); have HK5a := Lib.hid (HK1.out _ (below_alloc HB5.out (.cells #[.bool false, .string ⟨#[]⟩, .string ⟨#[]⟩] 31))); have HK5s := Lib.hid (HK1.out _ (below_put3 HB5.out (Nat.le_refl _) (.bool pr.1.f0) (.string pr.1.f1) (.string pr.1.f2))); have HK5as := Lib.hid (HK1.out _ (below_alloc HB5.out (.cells #[.bool pr.1.f0, .string pr.1.f1, .string pr.1.f2] 31)))))
        all_goals go_wp2_with fail
        all_goals go_meet
        all_goals first
          | exact ⟨_, rfl, rfl, Lib.hid (World.alloc_heap_new w5 _), Lib.hid (below_alloc HB5.out _), Lib.hid HB5.out.size⟩
          | exact ⟨_, rfl, rfl, Lib.hid (boxS_put GX.out pr.1), Lib.hid (below_put3 HB5.out (Nat.le_refl _) _ _ _), Lib.hid (Nat.le_refl _)⟩
      case rest =>
        obtain ⟨P1, rfl, rfl, HX1, HB1, HL1⟩ := hcut
        have HK3 : Hid (∀ W, Below wc.heap.size wc W → W.cell? ⟨b, off + k, none⟩ = some (.slice (some ⟨bk, offk, none⟩) n (cs k)) ∧ W.cell? ⟨bk, offk + j * 3, none⟩ = some (.bool xk.f0) ∧ W.cell? ⟨bk, offk + j * 3 + 1, none⟩ = some (.string xk.f1) ∧ W.cell? ⟨bk, offk + j * 3 + 2, none⟩ = some (.string xk.f2) ∧ W.cell? ⟨P1, 0, none⟩ = some (.bool pr.1.f0) ∧ W.cell? ⟨P1, 1, none⟩ = some (.string pr.1.f1) ∧ W.cell? ⟨P1, 2, none⟩ = some (.string pr.1.f2)) := Lib.hid fun W hW => by
          obtain ⟨e1, e2, e3, e4⟩ := HK2.out W (HB1.out.trans (hW.mono HB1.out.size))
          obtain ⟨e5, e6, e7⟩ := boxS_cells (HX1.out.below hW)
          exact ⟨e1, e2, e3, e4, e5, e6, e7⟩
        have HTC : Hid (∀ W, Below wc.heap.size wc W → Tab W) := Lib.hid fun W hW => HTW.out W (HB1.out.trans (hW.mono HB1.out.size))
        obtain ⟨sm, hsm⟩ : ∃ p, addS pr.1 xk = p := ⟨_, rfl⟩
        rw [hsm] at HA
        have HSM := Lib.hid hsm
        obtain ⟨we, hwe⟩ : ∃ we : World, we = wc := ⟨_, rfl⟩
        rw [← hwe] at HK3 HTC HX1 HB1 ⊢
        clear hsm HK1 HK2 HTW hwe
        go_upto_region 14 with fail
        go_cut [20, 21] (fun s20 s21 wx => ∃ P, s20 = .pointer (some ⟨P, 0, none⟩) ∧ s21 = .int .i64 sm.2 ∧ Hid (BoxS wx P sm.1) ∧ Hid (Below we.heap.size we wx) ∧ Hid (we.heap.size ≤ P))
        case first =>
          have HKd := Lib.hid (HK3.out _ (below_drew1 (Below.refl _ we)))
          have HKa := Lib.hid (HK3.out _ (below_drew1 (below_alloc (Below.refl _ we) (.cells #[.bool false, .string ⟨#[]⟩, .string ⟨#[]⟩] 31))))
          go_region_held3 (fun W => W.cell? ⟨b, off + k, none⟩ = some (.slice (some ⟨bk, offk, none⟩) n (cs k)) ∧ W.cell? ⟨bk, offk + j * 3, none⟩ = some (.bool xk.f0) ∧ W.cell? ⟨bk, offk + j * 3 + 1, none⟩ = some (.string xk.f1) ∧ W.cell? ⟨bk, offk + j * 3 + 2, none⟩ = some (.string xk.f2) ∧ W.cell? ⟨P1, 0, none⟩ = some (.bool pr.1.f0) ∧ W.cell? ⟨P1, 1, none⟩ = some (.string pr.1.f1) ∧ W.cell? ⟨P1, 2, none⟩ = some (.string pr.1.f2))
            (with_reducible first | exact HKd.out | exact HKa.out | exact HK5.out | exact HK5a.out | exact HK5s.out | exact HK5as.out | fail)
            ((go_at_call 22; (with_reducible refine (addS_calls pr.1 xk _ (HTC.out _ (by repeat (with_reducible first | exact Below.refl _ _ | apply below_alloc | apply below_drew1)))).mono ?_); rw [HSM.out]; rintro e w5 ⟨rfl, hb5⟩; have HB5 : Hid (Below we.heap.size we w5) := Lib.hid (below_then (by repeat (with_reducible first | exact Below.refl _ _ | apply below_alloc | apply below_drew1)) (by simp) hb5); (try (have gx : w5.heap[we.heap.size]? = some (.cells #[.bool false, .string ⟨#[]⟩, .string ⟨#[]⟩] 31 (0, 0)) := (hb5.block _ (by simp)).trans (World.alloc_heap_new we _); obtain ⟨gx0, gx1, gx2⟩ := boxZ gx; have GX := Lib.hid gx; clear gx)); clear hb5; have HK5 := Lib.hid (HK3.out _ HB5.out); have HK5a := Lib.hid (HK3.out _ (below_alloc HB5.out (.cells #[.bool false, .string ⟨#[]⟩, .string ⟨#[]⟩] 31))); have HK5s := Lib.hid (HK3.out _ (below_put3 HB5.out (Nat.le_refl _) (.bool sm.1.f0) (.string sm.1.f1) (.string sm.1.f2))); have HK5as := Lib.hid (HK3.out _ (below_alloc HB5.out (.cells #[.bool sm.1.f0, .string sm.1.f1, .string sm.1.f2] 31)))))
          all_goals go_wp2_with fail
          all_goals go_meet
          all_goals first
            | exact ⟨_, rfl, rfl, Lib.hid (World.alloc_heap_new w5 _), Lib.hid (below_alloc HB5.out _), Lib.hid HB5.out.size⟩
            | exact ⟨_, rfl, rfl, Lib.hid (boxS_put GX.out sm.1), Lib.hid (below_put3 HB5.out (Nat.le_refl _) _ _ _), Lib.hid (Nat.le_refl _)⟩
        case rest =>
          obtain ⟨P2, rfl, rfl, HX2, HB2, HL2⟩ := hcut
          clear HK3 HTC
          have HBE := Lib.hid (HB1.out.trans (HB2.out.mono HB1.out.size))
          have HM2 := Lib.hid (HZ'.out.below HBE.out)
          obtain ⟨wx, hwx⟩ : ∃ wx : World, wx = wc := ⟨_, rfl⟩
          rw [← hwx] at HBE HX2 HB2 HM2 ⊢
          clear hwx
          by_cases he1 : pr.2 = 0
          · by_cases he2 : sm.2 = 0
            · have b1 : (pr.2 != 0) = false := by rw [he1]; rfl
              have b2 : (sm.2 != 0) = false := by rw [he2]; rfl
              have HE1 := Lib.hid he1
              have HE2 := Lib.hid he2
              clear he1 he2
              go_upto_region 17 with fail
              clear b1 b2
              obtain ⟨q1, q2⟩ := own_cell HM2.out.own hin
              rw [if_pos rfl] at q1
              obtain ⟨x0, x1, x2⟩ := boxS_cells HX2.out
              have hP2 : P2 < wx.heap.size := (Array.getElem?_eq_some_iff.1 HX2.out).1
              have hwe := HB1.out.size
              have hP2g : P2 ≠ g := by have := HZ'.out.lt.1.2; have := HL2.out; omega
              have hP2v : some P2 ≠ v.ownBlock := fun e => by
                have := R_size HZ'.out.row P2 (by have := HL2.out; omega); exact this e
              have HMd := Lib.hid (HM2.out.below (below_drew1 (Below.refl _ wx)))
              have q3 : (wx.alloc (.cells #[.bool sm.1.f0, .string sm.1.f1, .string sm.1.f2] 31)).cell? ⟨g, i, none⟩ = some v := (((Below.refl _ wx).alloc (Nat.le_refl _) _).cell (p := ⟨g, i, none⟩) HM2.out.lt.1.2).trans q1
              clear hwe
              go_region_law
                ((refine Kd.R_append_step kR (w0 := w) w.heap.size (by rfl) (.tmp 126) (.tmp 128) 23 31 (.agg #[(.bool false), (.string ⟨#[]⟩), (.string ⟨#[]⟩)]) 40 (by rfl) Tryz.underlying23 info31 (by rfl) (by decide) (by omega) v (upS j fun t => (mA l0 by_ i k t).1) sm.1 [.bool sm.1.f0, .string sm.1.f1, .string sm.1.f2] (fun b => b ≠ g ∧ b ≠ gr ∧ b ≠ w.heap.size) (fun _ => False) (by rfl) (by rfl) (k31_mkM _ _ _ _) (fun _ hk => hk.elim) (fun b hb => by have := HMd.out.lt; omega) HMd.out.row HMd.out.bel HMd.out.bel.size (by rw [upS_len]; omega) ?_; intro v1 W5 hR hB hg _; obtain ⟨A5, c5, e5, _⟩ := Kd.R_reads hR; obtain ⟨L5, hL5⟩ : ∃ L5, ((upS j fun t => (mA l0 by_ i k t).1) ++ [sm.1]).length = L5 := ⟨_, rfl⟩; rw [hL5] at e5; subst e5; clear hL5; obtain ⟨hO5, hZ5⟩ := HMd.out.next hR hB hg; have HZ5 := Lib.hid hZ5; obtain ⟨s1, s2⟩ := own_cell hO5 hin; rw [if_pos rfl] at s1; clear hO5 hZ5 hR hB hg))
              all_goals
                go_wp2_with fail
                go_roundw
                case rel =>
                  refine ⟨j + 1, hlt, by go_num, .slice A5 L5 c5, ?_, Lib.hid fun t ht => ?_⟩
                  · have h5 := HZ5.out
                    have e5 : (upS j fun t => (mA l0 by_ i k t).1) ++ [sm.1] = upS (j + 1) fun t => (mA l0 by_ i k t).1 := by rw [← upS_snoc j (fun t => (mA l0 by_ i k t).1), HA.out]
                    rw [e5] at h5
                    exact Lib.hid h5
                  · by_cases ej : t = j
                    · subst ej; rw [HP.out, HA.out]; exact ⟨HE1.out, HE2.out⟩
                    · exact HE.out t (by omega)
                case measure => simp only [intOf]; omega
            · have b1 : (pr.2 != 0) = false := by rw [he1]; rfl
              have b2 : (sm.2 != 0) = true := bne_iff_ne.2 he2
              clear he1 he2
              go_wp2_with fail
              go_ret
              exact ⟨rfl, HM2.out.bel⟩
          · have b1 : (pr.2 != 0) = true := bne_iff_ne.2 he1
            clear he1
            go_wp2_with fail
            go_ret
            exact ⟨rfl, HM2.out.bel⟩
    · obtain rfl : n = j := by omega
      have hci := HCB.out i (by rw [HS.out.sys.len1]; exact hin)
      have hck := HCB.out k (by rw [HS.out.sys.len1]; exact hkn)
      obtain ⟨xi, hxi⟩ : ∃ x, rdS l1 i = x := ⟨_, rfl⟩
      obtain ⟨xk, hxk⟩ : ∃ x, rdS l1 k = x := ⟨_, rfl⟩
      rw [hxi] at hci
      rw [hxk] at hck
      have hold : ∀ {B o : Nat} {u : Value} {W : World}, B < w.heap.size → w.cell? ⟨B, o, none⟩ = some u → Below wr.heap.size wr W → W.cell? ⟨B, o, none⟩ = some u := fun {B o u W} h1 h2 h3 => ((HZ'.out.bel.trans (h3.mono HZ'.out.bel.size)).cell (p := ⟨B, o, none⟩) h1).trans h2
      have HK1 : Hid (∀ W, Below wr.heap.size wr W → W.cell? ⟨bb, offb + i * 3, none⟩ = some (.bool xi.f0) ∧ W.cell? ⟨bb, offb + i * 3 + 1, none⟩ = some (.string xi.f1) ∧ W.cell? ⟨bb, offb + i * 3 + 2, none⟩ = some (.string xi.f2) ∧ W.cell? ⟨w.heap.size, 0, none⟩ = some (.bool by_.f0) ∧ W.cell? ⟨w.heap.size, 1, none⟩ = some (.string by_.f1) ∧ W.cell? ⟨w.heap.size, 2, none⟩ = some (.string by_.f2)) := Lib.hid fun W hW =>
        ⟨hold HBB.out hci.1 hW, hold HBB.out hci.2.1 hW, hold HBB.out hci.2.2 hW, (boxS_cells (HZ'.out.box.below hW)).1, (boxS_cells (HZ'.out.box.below hW)).2.1, (boxS_cells (HZ'.out.box.below hW)).2.2⟩
      have HK2 : Hid (∀ W, Below wr.heap.size wr W → W.cell? ⟨bb, offb + k * 3, none⟩ = some (.bool xk.f0) ∧ W.cell? ⟨bb, offb + k * 3 + 1, none⟩ = some (.string xk.f1) ∧ W.cell? ⟨bb, offb + k * 3 + 2, none⟩ = some (.string xk.f2)) := Lib.hid fun W hW =>
        ⟨hold HBB.out hck.1 hW, hold HBB.out hck.2.1 hW, hold HBB.out hck.2.2 hW⟩
      have HTW : Hid (∀ W, Below wr.heap.size wr W → Tab W) := Lib.hid fun W hW => HT.out.below (HZ'.out.bel.trans (hW.mono HZ'.out.bel.size))
      have HXI := Lib.hid hxi
      have HXK := Lib.hid hxk
      clear hci hck hold hxi hxk
      obtain ⟨pr, hpr⟩ : ∃ p, mulS xi by_ = p := ⟨_, rfl⟩
      have HPR := Lib.hid hpr
      clear hpr
      have i0' : (i : Int) < (n : Int) := by omega
      have i2' : (k : Int) < (n : Int) := by omega
      go_upto_region 18 with fail
      go_cut [22, 23] (fun s22 s23 wx => ∃ P, s22 = .pointer (some ⟨P, 0, none⟩) ∧ s23 = .int .i64 pr.2 ∧ Hid (BoxS wx P pr.1) ∧ Hid (Below wr.heap.size wr wx))
      case first =>
        have HKd := Lib.hid (HK1.out _ (below_drew1 (Below.refl _ wr)))
        have HKa := Lib.hid (HK1.out _ (below_drew1 (below_alloc (Below.refl _ wr) (.cells #[.bool false, .string ⟨#[]⟩, .string ⟨#[]⟩] 31))))
        go_region_held3 (fun W => W.cell? ⟨bb, offb + i * 3, none⟩ = some (.bool xi.f0) ∧ W.cell? ⟨bb, offb + i * 3 + 1, none⟩ = some (.string xi.f1) ∧ W.cell? ⟨bb, offb + i * 3 + 2, none⟩ = some (.string xi.f2) ∧ W.cell? ⟨w.heap.size, 0, none⟩ = some (.bool by_.f0) ∧ W.cell? ⟨w.heap.size, 1, none⟩ = some (.string by_.f1) ∧ W.cell? ⟨w.heap.size, 2, none⟩ = some (.string by_.f2))
          (with_reducible first | exact HKd.out | exact HKa.out | exact HK5.out | exact HK5a.out | exact HK5s.out | exact HK5as.out | fail)
          ((go_at_call 21; (with_reducible refine (mulS_calls xi by_ _ (HTW.out _ (by repeat (with_reducible first | exact Below.refl _ _ | apply below_alloc | apply below_drew1)))).mono ?_); rw [HPR.out]; rintro e w5 ⟨rfl, hb5⟩; have HB5 : Hid (Below wr.heap.size wr w5) := Lib.hid (below_then (by repeat (with_reducible first | exact Below.refl _ _ | apply below_alloc | apply below_drew1)) (by simp) hb5); (try (have gx : w5.heap[wr.heap.size]? = some (.cells #[.bool false, .string ⟨#[]⟩, .string ⟨#[]⟩] 31 (0, 0)) := (hb5.block _ (by simp)).trans (World.alloc_heap_new wr _); obtain ⟨gx0, gx1, gx2⟩ := boxZ gx; have GX := Lib.hid gx; clear gx)); clear hb5; have HK5 := Lib.hid (HK1.out _ HB5.out); have HK5a := Lib.hid (HK1.out _ (below_alloc HB5.out (.cells #[.bool false, .string ⟨#[]⟩, .string ⟨#[]⟩] 31))); have HK5s := Lib.hid (HK1.out _ (below_put3 HB5.out (Nat.le_refl _) (.bool pr.1.f0) (.string pr.1.f1) (.string pr.1.f2))); have HK5as := Lib.hid (HK1.out _ (below_alloc HB5.out (.cells #[.bool pr.1.f0, .string pr.1.f1, .string pr.1.f2] 31)))))
        all_goals go_wp2_with fail
        all_goals go_meet
        all_goals first
          | exact ⟨_, rfl, rfl, Lib.hid (World.alloc_heap_new w5 _), Lib.hid (below_alloc HB5.out _)⟩
          | exact ⟨_, rfl, rfl, Lib.hid (boxS_put GX.out pr.1), Lib.hid (below_put3 HB5.out (Nat.le_refl _) _ _ _)⟩
      case rest =>
        obtain ⟨P1, rfl, rfl, HX1, HB1⟩ := hcut
        have HK3 : Hid (∀ W, Below wc.heap.size wc W → W.cell? ⟨bb, offb + k * 3, none⟩ = some (.bool xk.f0) ∧ W.cell? ⟨bb, offb + k * 3 + 1, none⟩ = some (.string xk.f1) ∧ W.cell? ⟨bb, offb + k * 3 + 2, none⟩ = some (.string xk.f2) ∧ W.cell? ⟨P1, 0, none⟩ = some (.bool pr.1.f0) ∧ W.cell? ⟨P1, 1, none⟩ = some (.string pr.1.f1) ∧ W.cell? ⟨P1, 2, none⟩ = some (.string pr.1.f2)) := Lib.hid fun W hW => by
          obtain ⟨e2, e3, e4⟩ := HK2.out W (HB1.out.trans (hW.mono HB1.out.size))
          obtain ⟨e5, e6, e7⟩ := boxS_cells (HX1.out.below hW)
          exact ⟨e2, e3, e4, e5, e6, e7⟩
        have HTC : Hid (∀ W, Below wc.heap.size wc W → Tab W) := Lib.hid fun W hW => HTW.out W (HB1.out.trans (hW.mono HB1.out.size))
        obtain ⟨sm, hsm⟩ : ∃ p, addS pr.1 xk = p := ⟨_, rfl⟩
        have HSM := Lib.hid hsm
        obtain ⟨we, hwe⟩ : ∃ we : World, we = wc := ⟨_, rfl⟩
        rw [← hwe] at HK3 HTC HX1 HB1 ⊢
        clear hsm HK1 HK2 HTW hwe
        go_upto_region 19 with fail
        go_cut [24, 25] (fun s24 s25 wx => ∃ P, s24 = .pointer (some ⟨P, 0, none⟩) ∧ s25 = .int .i64 sm.2 ∧ Hid (BoxS wx P sm.1) ∧ Hid (Below we.heap.size we wx) ∧ Hid (we.heap.size ≤ P))
        case first =>
          have HKd := Lib.hid (HK3.out _ (below_drew1 (Below.refl _ we)))
          have HKa := Lib.hid (HK3.out _ (below_drew1 (below_alloc (Below.refl _ we) (.cells #[.bool false, .string ⟨#[]⟩, .string ⟨#[]⟩] 31))))
          go_region_held3 (fun W => W.cell? ⟨bb, offb + k * 3, none⟩ = some (.bool xk.f0) ∧ W.cell? ⟨bb, offb + k * 3 + 1, none⟩ = some (.string xk.f1) ∧ W.cell? ⟨bb, offb + k * 3 + 2, none⟩ = some (.string xk.f2) ∧ W.cell? ⟨P1, 0, none⟩ = some (.bool pr.1.f0) ∧ W.cell? ⟨P1, 1, none⟩ = some (.string pr.1.f1) ∧ W.cell? ⟨P1, 2, none⟩ = some (.string pr.1.f2))
            (with_reducible first | exact HKd.out | exact HKa.out | exact HK5.out | exact HK5a.out | exact HK5s.out | exact HK5as.out | fail)
            ((go_at_call 22; (with_reducible refine (addS_calls pr.1 xk _ (HTC.out _ (by repeat (with_reducible first | exact Below.refl _ _ | apply below_alloc | apply below_drew1)))).mono ?_); rw [HSM.out]; rintro e w5 ⟨rfl, hb5⟩; have HB5 : Hid (Below we.heap.size we w5) := Lib.hid (below_then (by repeat (with_reducible first | exact Below.refl _ _ | apply below_alloc | apply below_drew1)) (by simp) hb5); (try (have gx : w5.heap[we.heap.size]? = some (.cells #[.bool false, .string ⟨#[]⟩, .string ⟨#[]⟩] 31 (0, 0)) := (hb5.block _ (by simp)).trans (World.alloc_heap_new we _); obtain ⟨gx0, gx1, gx2⟩ := boxZ gx; have GX := Lib.hid gx; clear gx)); clear hb5; have HK5 := Lib.hid (HK3.out _ HB5.out); have HK5a := Lib.hid (HK3.out _ (below_alloc HB5.out (.cells #[.bool false, .string ⟨#[]⟩, .string ⟨#[]⟩] 31))); have HK5s := Lib.hid (HK3.out _ (below_put3 HB5.out (Nat.le_refl _) (.bool sm.1.f0) (.string sm.1.f1) (.string sm.1.f2))); have HK5as := Lib.hid (HK3.out _ (below_alloc HB5.out (.cells #[.bool sm.1.f0, .string sm.1.f1, .string sm.1.f2] 31)))))
          all_goals go_wp2_with fail
          all_goals go_meet
          all_goals first
            | exact ⟨_, rfl, rfl, Lib.hid (World.alloc_heap_new w5 _), Lib.hid (below_alloc HB5.out _), Lib.hid HB5.out.size⟩
            | exact ⟨_, rfl, rfl, Lib.hid (boxS_put GX.out sm.1), Lib.hid (below_put3 HB5.out (Nat.le_refl _) _ _ _), Lib.hid (Nat.le_refl _)⟩
        case rest =>
          obtain ⟨P2, rfl, rfl, HX2, HB2, HL2⟩ := hcut
          clear HK3 HTC
          obtain ⟨wx, hwx⟩ : ∃ wx : World, wx = wc := ⟨_, rfl⟩
          rw [← hwx] at HX2 HB2 ⊢
          clear hwx
          have HBE := Lib.hid (HB1.out.trans (HB2.out.mono HB1.out.size))
          have HM2 := Lib.hid (HZ'.out.below HBE.out)
          by_cases he1 : pr.2 = 0
          · by_cases he2 : sm.2 = 0
            · have b1 : (pr.2 != 0) = false := by rw [he1]; rfl
              have b2 : (sm.2 != 0) = false := by rw [he2]; rfl
              have HE1 := Lib.hid he1
              have HE2 := Lib.hid he2
              clear he1 he2
              obtain ⟨x0, x1, x2⟩ := boxS_cells HX2.out
              obtain ⟨q0, q1, q2⟩ := rowown_cells HM2.out.rgt (by rw [HS.out.sys.len1]; exact hin)
              go_upto_region 23 with fail
              clear b1 b2 x0 x1 x2 q0 q1 q2
              have hr6 := rowown_put HM2.out.rgt (i := i) (by rw [HS.out.sys.len1]; exact hin) sm.1
              have ho6 := own_setCell (own_setCell (own_setCell HM2.out.own (p := ⟨gr, i * 3, none⟩) (fun e => HM2.out.n1 (Option.some.inj e).symm) (.bool sm.1.f0)) (p := ⟨gr, i * 3 + 1, none⟩) (fun e => HM2.out.n1 (Option.some.inj e).symm) (.string sm.1.f1)) (p := ⟨gr, i * 3 + 2, none⟩) (fun e => HM2.out.n1 (Option.some.inj e).symm) (.string sm.1.f2)
              have hv6 := Kd.R_far (p := ⟨gr, i * 3 + 2, none⟩) (Kd.R_far (p := ⟨gr, i * 3 + 1, none⟩) (Kd.R_far (p := ⟨gr, i * 3, none⟩) HM2.out.row (fun _ h => h.2.1) (.bool sm.1.f0)) (fun _ h => h.2.1) (.string sm.1.f1)) (fun _ h => h.2.1) (.string sm.1.f2)
              have hb6 : Below w.heap.size w _ := ((HM2.out.bel.setCell (p := ⟨gr, i * 3, none⟩) HM2.out.lt.2.1.1 (.bool sm.1.f0)).setCell (p := ⟨gr, i * 3 + 1, none⟩) HM2.out.lt.2.1.1 (.string sm.1.f1)).setCell (p := ⟨gr, i * 3 + 2, none⟩) HM2.out.lt.2.1.1 (.string sm.1.f2)
              obtain ⟨W6, hW6⟩ : ∃ W6, (((wx.setCell ⟨gr, i * 3, none⟩ (.bool sm.1.f0)).setCell ⟨gr, i * 3 + 1, none⟩ (.string sm.1.f1)).setCell ⟨gr, i * 3 + 2, none⟩ (.string sm.1.f2)) = W6 := ⟨_, rfl⟩
              rw [hW6] at hr6 ho6 hv6 hb6 ⊢
              clear hW6
              obtain ⟨acc, hacc⟩ : ∃ acc, (upS n fun t => (mA l0 by_ i k t).1) = acc := ⟨_, rfl⟩
              have hal : acc.length = n := by rw [← hacc]; exact upS_len _ _
              have hrow : ∀ t, t < n → vldS (rdS acc t) = true ∧ toQ (rdS acc t) = toQ (rdS (l0.getD i []) t) * toQ by_ + toQ (rdS (l0.getD k []) t) := fun t ht => by
                obtain ⟨g1, g2, g3⟩ := goodA_parts HG.out
                obtain ⟨e1, e2⟩ := HE.out t ht
                obtain ⟨p1, p2⟩ := ok_use (mul_ok ((g3 i (by rw [HS.out.sys.len1]; exact hin)).2 t (by rw [HS.out.sys.len1]; exact ht)) HV.out) e1
                obtain ⟨s1, s2⟩ := ok_use (add_ok p1 ((g3 k (by rw [HS.out.sys.len1]; exact hkn)).2 t (by rw [HS.out.sys.len1]; exact ht))) e2
                have er : rdS acc t = (mA l0 by_ i k t).1 := by rw [← hacc]; unfold upS; rw [rdS_range _ _ _ ht]
                rw [er]
                exact ⟨s1, by rw [show (mA l0 by_ i k t).1 = (addS (mulS (rdS (l0.getD i []) t) by_).1 (rdS (l0.getD k []) t)).1 from rfl, s2, p2]⟩
              have hrhs : vldS sm.1 = true ∧ toQ sm.1 = toQ (rdS l1 i) * toQ by_ + toQ (rdS l1 k) := by
                obtain ⟨g1, g2, g3⟩ := goodA_parts HG.out
                have e1 : (mulS (rdS l1 i) by_).2 = 0 := by rw [HXI.out, HPR.out]; exact HE1.out
                obtain ⟨p1, p2⟩ := ok_use (mul_ok (g2 i (by rw [HS.out.sys.len1]; exact hin)) HV.out) e1
                rw [HXI.out, HPR.out] at p1 p2
                have e2 : (addS pr.1 (rdS l1 k)).2 = 0 := by rw [HXK.out, HSM.out]; exact HE2.out
                obtain ⟨s1, s2⟩ := ok_use (add_ok p1 (g2 k (by rw [HS.out.sys.len1]; exact hkn))) e2
                rw [HXK.out, HSM.out] at s1 s2
                exact ⟨s1, by rw [s2, p2, HXI.out, HXK.out]⟩
              have hbne : toQ by_ ≠ 0 := fun e => by
                have h0 := (isZ_iff HV.out).2 e
                unfold isZ at h0
                rw [HZ.out] at h0
                simp at h0
              obtain ⟨x, hx⟩ : ∃ x, linF l0 l1 = x := ⟨_, rfl⟩
              obtain ⟨y, hy⟩ : ∃ y, linF (l0.set i acc) (l1.set i sm.1) = y := ⟨_, rfl⟩
              have hxy : x.2 = 2 ∨ y.2 = 2 ∨ (x.2 = y.2 ∧ x.1 = y.1) := by
                have := multi_same HG.out (i := i) (k := k) (by rw [HS.out.sys.len1]; exact hin) (by rw [HS.out.sys.len1]; exact hkn) hne hbne (r := acc) (s := sm.1) (by rw [HS.out.sys.len1]; exact hal) (fun j hj => hrow j (by rw [HS.out.sys.len1] at hj; exact hj)) hrhs
                rw [hx, hy] at this
                exact this
              rw [hacc] at hv6
              have hC6 := C_of_hdr (l := l0.set i acc) ho6 (by rw [List.length_set]; exact HS.out.len0) (by omega) (fun j hj => by
                rw [getD_set _ _ _ _ (by rw [HS.out.len0]; exact hin)]
                by_cases ej : j = i
                · rw [if_pos ej, if_pos ej]
                  obtain ⟨A, c, h1, h2, h3⟩ := Kd.R_reads hv6
                  exact ⟨A, c, h1, h2, h3⟩
                · rw [if_neg ej, if_neg ej]; exact HS.out.rowAt hb6 hj)
              have hll : ∀ j, j < n → (l0.getD j []).length = n := HS.out.sys.len
              have HS1 := Lib.hid (sol_any (c0 := c0) (HT.out.below hb6) (Kd.C_below HR0.out hb6) hc0 (Kd.C_below HS.out.sys.rhs hb6) hc1 h8 hll x hx)
              have HS2 := Lib.hid (fun W (hW : Below W6.heap.size W6 W) => sol_any (c0 := cap) (c1 := capr) (HT.out.below (hb6.trans (hW.mono hb6.size))) (Kd.C_below hC6 hW) (own_le ho6) (Kd.C_below (C_of_row hr6 (by omega)) hW) (own_le hr6) h8 (fun j hj => by
                rw [getD_set _ _ _ _ (by rw [HS.out.len0]; exact hin)]
                by_cases ej : j = i
                · rw [if_pos ej]; exact hal
                · rw [if_neg ej]; exact hll j hj) y hy)
              have HXY := Lib.hid hxy
              have HB6 := Lib.hid hb6
              clear hx hy hxy hll hC6 hr6 ho6 hv6 hb6 hrow hrhs hbne hal hacc HM2 HX2 HE HE1 HE2 HBE HX1 HB1 HB2
              obtain ⟨x1, x2⟩ := x
              obtain ⟨y1, y2⟩ := y
              dsimp only at HXY HS1 HS2
              go_upto_region 24 with (go_at_call 12; with_reducible refine HS1.out.mono ?_; rintro e W7 ⟨AX, cX, rfl, hcX, hCX, hb⟩; have HB7 := Lib.hid hb; have HCX := Lib.hid hCX; have HcX := Lib.hid hcX; clear hb hCX hcX)
              go_upto_region 25 with (go_at_call 12; with_reducible refine (HS2.out _ HB7.out).mono ?_; rintro e W8 ⟨AY, cY, rfl, hcY, hCY, hb⟩; have HB8 := Lib.hid (HB6.out.trans ((HB7.out.trans (hb.mono HB7.out.size)).mono HB6.out.size)); have HX8 := Lib.hid (Kd.C_below HCX.out hb); have HCY := Lib.hid hCY; have HcY := Lib.hid hcY; clear hb hCY hcY)
              obtain ⟨kk, hkk⟩ := (same2_ev x1 x2 y1 y2 HX8.out.2.1 HXY.out).rounds
              have HSA := Lib.hid (customhouselaw19_same.calls kk AX cX x1 x2 AY cY y1 y2 true W8 HX8.out HcX.out HCY.out HcY.out hkk)
              clear hkk
              go_wp2_with (go_at_call 16; with_reducible refine HSA.out.mono ?_; rintro e W9 ⟨rfl, hd⟩; have HD9 := Lib.hid hd.below; clear hd)
              go_ret
              exact ⟨rfl, HB8.out.trans (HD9.out.mono HB8.out.size)⟩
            · have b1 : (pr.2 != 0) = false := by rw [he1]; rfl
              have b2 : (sm.2 != 0) = true := bne_iff_ne.2 he2
              clear he1 he2
              go_wp2_with fail
              go_ret
              exact ⟨rfl, HM2.out.bel⟩
          · have b1 : (pr.2 != 0) = true := bne_iff_ne.2 he1
            clear he1
            go_wp2_with fail
            go_ret
            exact ⟨rfl, HM2.out.bel⟩
/-- LinearMultiples returns true, whatever the arguments. -/
theorem multi_calls (A0 : Option Addr) (c0 : Nat) (l0 : List (List SR)) (A1 : Option Addr) (c1 : Nat) (l1 : List SR) (by_ : SR) (one two : Int) (w : World) (hTab : Tab w)
    (hr0 : Kd.C (Kd.slice 31 kR) w A0 l0.length l0) (hc0 : l0.length ≤ c0) (hr1 : Kd.C kR w A1 l1.length l1) (hc1 : l1.length ≤ c1) (w3 : (Lit.int .u8 one).wf = true) (w4 : (Lit.int .u8 two).wf = true) (hbr : ∀ r ∈ l0, r.length ≤ BIG) :
    Calls Tryz.prog 8 #[.slice A0 l0.length c0, .slice A1 l1.length c1, vS by_, .int .u8 one, .int .u8 two] w fun e w' => e = .returned (.bool true) ∧ Below w.heap.size w w' := by
  obtain ⟨ho, ho'⟩ := u8_wf w3
  obtain ⟨ht, ht'⟩ := u8_wf w4
  rcases sq_cases l0 l1 hr0.2.1 hr1.2.1 hbr with ⟨k, hk⟩ | ⟨hg, h8, k, hk⟩
  · exact mult_no A0 c0 A1 c1 _ _ by_ one two false w hTab hr1.2.1 (fun W hW => customhouselaw19_square.calls k A0 c0 l0 A1 c1 l1 false W (hTab.below hW) (Kd.C_below hr0 hW) hc0 (Kd.C_below hr1 hW) hc1 hk) (.inl rfl)
  · by_cases hno : MNo l1.length true by_
    · exact mult_no A0 c0 A1 c1 _ _ by_ one two true w hTab hr1.2.1 (fun W hW => customhouselaw19_square.calls k A0 c0 l0 A1 c1 l1 true W (hTab.below hW) (Kd.C_below hr0 hW) hc0 (Kd.C_below hr1 hW) hc1 hk) hno
    · obtain ⟨As, cs, hsq, hS⟩ := sys_of k c0 c1 hr0 hc0 hr1 hc1 hg hTab hk
      have e1 := (goodA_parts hg).1
      unfold MNo at hno
      simp only [not_or] at hno
      obtain ⟨_, n1, n2, n3, n4⟩ := hno
      have h2 : 2 ≤ l1.length := by omega
      have m1 := Int.emod_nonneg one (b := (l1.length : Int)) (by omega)
      have m2 := Int.emod_lt_of_pos one (b := (l1.length : Int)) (by omega)
      have m3 := Int.emod_nonneg two (b := (l1.length : Int) - 1) (by omega)
      have m4 := Int.emod_lt_of_pos two (b := (l1.length : Int) - 1) (by omega)
      obtain ⟨i, hi⟩ : ∃ i : Nat, one % (l1.length : Int) = (i : Int) := ⟨(one % (l1.length : Int)).toNat, by omega⟩
      obtain ⟨d, hd⟩ : ∃ d : Nat, two % ((l1.length : Int) - 1) = (d : Int) := ⟨(two % ((l1.length : Int) - 1)).toNat, by omega⟩
      have m5 := Int.emod_nonneg ((i : Int) + 1 + d) (b := (l1.length : Int)) (by omega)
      have m6 := Int.emod_lt_of_pos ((i : Int) + 1 + d) (b := (l1.length : Int)) (by omega)
      obtain ⟨kk, hkk⟩ : ∃ kk : Nat, ((i : Int) + 1 + d) % (l1.length : Int) = (kk : Int) := ⟨(((i : Int) + 1 + d) % (l1.length : Int)).toNat, by omega⟩
      have hdlt : d + 1 < l1.length := by omega
      have hilt : i < l1.length := by omega
      have hklt : kk < l1.length := by omega
      have hne : i ≠ kk := by
        intro e
        subst e
        have hdm := Int.emod_add_mul_ediv ((i : Int) + 1 + d) (l1.length : Int)
        rw [hkk] at hdm
        obtain ⟨q, hq⟩ : ∃ q, ((i : Int) + 1 + d) / (l1.length : Int) = q := ⟨_, rfl⟩
        rw [hq] at hdm
        have h3 : (l1.length : Int) * q = 1 + d := by omega
        by_cases hq1 : q < 1
        · have : (l1.length : Int) * q ≤ 0 := Int.mul_nonpos_of_nonneg_of_nonpos (by omega) (by omega)
          omega
        · have : (l1.length : Int) * 1 ≤ (l1.length : Int) * q := Int.mul_le_mul_of_nonneg_left (by omega) (by omega)
          omega
      rw [e1]
      exact mult_yes A0 c0 l0 A1 c1 l1 by_ one two l1.length i kk As cs w hTab hsq hS (by rw [← e1]; exact hr0) (by omega) hc1 h8 h2 hg (by simpa using n2) (by simpa using n3) (by omega) ho ho' ht ht' hi (by rw [hd]; exact hkk) (by omega) (by omega) hilt hklt hne
end Go.Proofs.YtmkanjcehhbmlaaGreatDoor.Pr
end
