/- The examples of the chapter (customhouselaw19.head). -/
import Derived.Deep.RegionHeld3
import Derived.Deep.DeepCutAuto
import Derived.BigRegion
import Derived.Test.YtmkanjcehhbmlaaGreatDoorDBuild
import Derived.Test.YtmkanjcehhbmlaaGreatDoorDFmt
import Derived.Test.YtmkanjcehhbmlaaGreatDoorDGL1
import Derived.Test.YtmkanjcehhbmlaaGreatDoorDGL2
import Derived.Test.YtmkanjcehhbmlaaGreatDoorDGN
import Derived.Test.YtmkanjcehhbmlaaGreatDoorDGN2
import Derived.Test.YtmkanjcehhbmlaaGreatDoorDGN3
import Derived.Test.YtmkanjcehhbmlaaGreatDoorDGRR
import Derived.Test.YtmkanjcehhbmlaaGreatDoorDGRS
import Derived.Test.YtmkanjcehhbmlaaGreatDoorDGW
import Derived.Test.YtmkanjcehhbmlaaGreatDoorDGW2
import Derived.Test.YtmkanjcehhbmlaaGreatDoorDLinQ
import Derived.Test.YtmkanjcehhbmlaaGreatDoorDLinS
import Derived.Test.YtmkanjcehhbmlaaGreatDoorDNatApply
import Derived.Test.YtmkanjcehhbmlaaGreatDoorDNatS
import Derived.Test.YtmkanjcehhbmlaaGreatDoorDNum
import Derived.Test.YtmkanjcehhbmlaaGreatDoorDNumAdd
import Derived.Test.YtmkanjcehhbmlaaGreatDoorDNumCmp
import Derived.Test.YtmkanjcehhbmlaaGreatDoorDNumDiv
import Derived.Test.YtmkanjcehhbmlaaGreatDoorDNumIs
import Derived.Test.YtmkanjcehhbmlaaGreatDoorDNumMul
import Derived.Test.YtmkanjcehhbmlaaGreatDoorDNumOps
import Derived.Test.YtmkanjcehhbmlaaGreatDoorDNumParse
import Derived.Test.YtmkanjcehhbmlaaGreatDoorDNumText
import Derived.Test.YtmkanjcehhbmlaaGreatDoorDNumVal
import Derived.Test.YtmkanjcehhbmlaaGreatDoorDPrA1
import Derived.Test.YtmkanjcehhbmlaaGreatDoorDPrA11
import Derived.Test.YtmkanjcehhbmlaaGreatDoorDPrA3
import Derived.Test.YtmkanjcehhbmlaaGreatDoorDPrA4
import Derived.Test.YtmkanjcehhbmlaaGreatDoorDPrA5
import Derived.Test.YtmkanjcehhbmlaaGreatDoorDPrB1
import Derived.Test.YtmkanjcehhbmlaaGreatDoorDPrB2
import Derived.Test.YtmkanjcehhbmlaaGreatDoorDPrC1
import Derived.Test.YtmkanjcehhbmlaaGreatDoorDRatOps
import Derived.Test.YtmkanjcehhbmlaaGreatDoorDRatProd
import Derived.Test.YtmkanjcehhbmlaaGreatDoorDRatSum
import Derived.Test.YtmkanjcehhbmlaaGreatDoorDRatVal
import Derived.Test.YtmkanjcehhbmlaaGreatDoorDRegInv
import Derived.Test.YtmkanjcehhbmlaaGreatDoorDShelf
import Derived.Test.YtmkanjcehhbmlaaGreatDoorDSpec
import Derived.Test.YtmkanjcehhbmlaaGreatDoorDTab
import Derived.Test.YtmkanjcehhbmlaaGreatDoorDWLast
set_option linter.all false
section
namespace Go.Proofs.YtmkanjcehhbmlaaGreatDoor.Pr
set_option linter.unusedSimpArgs false
set_option linter.unusedVariables false
open Go.RowKit Go.Shelf Go.Proofs.YtmkanjcehhbmlaaGreatDoorW.PrintWords Go.Proofs.YtmkanjcehhbmlaaGreatDoorW.PrintLast Go.Proofs.YtmkanjcehhbmlaaGreatDoorW.PrintMore
def nS (b : Bool) (x y : List UInt8) : SR := ⟨b, ⟨x.toArray⟩, ⟨y.toArray⟩⟩
/-- A whole number. -/
def numV (k : Int) : SR := match customhouselaw19_number.f k with
  | some r => ⟨r.1, r.2.1, r.2.2⟩
  | none => zS
theorem num_calls (k : Int) (w : World) (hTab : Tab w) (hk : -1000 ≤ k ∧ k ≤ 1000) : Calls Tryz.prog 17 #[.int .i64 k] w fun e w' => e = .returned (vS (numV k)) ∧ Below w.heap.size w w' := by
  have h : customhouselaw19_number.f k = some ((numV k).f0, (numV k).f1, (numV k).f2) := by
    unfold numV
    have : ∃ r, customhouselaw19_number.f k = some r := by
      unfold customhouselaw19_number.f ratio_Of.f
      rw [if_pos (by omega)]
      exact ⟨_, rfl⟩
    obtain ⟨r, hr⟩ := this
    rw [hr]
  exact customhouselaw19_number.calls k _ _ _ w hTab h
theorem row_C {W : World} {b : Nat} {xs : List SR} (h : W.heap[b]? = some (.cells (rowC xs) 31 (0, 0))) (hl : xs.length ≤ 1000) : Kd.C kR W (some ⟨b, 0, none⟩) xs.length xs := by
  refine ⟨rfl, by omega, fun _ => ⟨_, rfl, fun j p hj => ?_⟩⟩
  have hlt := (List.getElem?_eq_some_iff.1 hj).1
  obtain ⟨d0, d1, d2, _⟩ := row_cells h hlt
  have hp : rdS xs j = p := by unfold rdS; rw [List.getD_eq_getElem?_getD, hj]; rfl
  rw [hp] at d0 d1 d2
  have ea : ∀ j, (⟨b, 0, none⟩ : Addr).add j = ⟨b, 0 + j, none⟩ := fun j => by unfold Addr.add; split <;> simp_all
  refine ⟨_, rfl, k31_mk W p, fun i u hu => ?_⟩
  rw [ea, Nat.zero_add]
  match i, hu with
  | 0, hu => injection hu with hu; subst hu; exact d0
  | 1, hu => injection hu with hu; subst hu; exact d1
  | 2, hu => injection hu with hu; subst hu; exact d2
theorem rows_C {W : World} {b : Nat} {l : List (List SR)} {vs : List Value} (h : W.heap[b]? = some (.cells vs.toArray 23 (0, 0))) (hv : vs.length = l.length) (hl : l.length ≤ 1000)
    (hc : ∀ (j : Nat) (xs : List SR), l[j]? = some xs → ∃ A c, vs[j]? = some (Value.slice A xs.length c) ∧ xs.length ≤ c ∧ Kd.C kR W A xs.length xs) : Kd.C (Kd.slice 31 kR) W (some ⟨b, 0, none⟩) l.length l := by
  refine ⟨rfl, by omega, fun _ => ⟨_, rfl, fun j p hj => ?_⟩⟩
  obtain ⟨A, c, hvj, hcl, hC⟩ := hc j p hj
  have ea : ∀ j, (⟨b, 0, none⟩ : Addr).add j = ⟨b, 0 + j, none⟩ := fun j => by unfold Addr.add; split <;> simp_all
  refine ⟨[.slice A p.length c], rfl, ⟨A, c, rfl, hcl, hC⟩, fun i u hu => ?_⟩
  match i, hu with
  | 0, hu =>
    injection hu with hu; subst hu
    rw [ea]
    show W.cell? ⟨b, 0 + (j * 1 + 0), none⟩ = _
    rw [show 0 + (j * 1 + 0) = j by omega]
    simp [World.cell?, h, hvj]
abbrev lit1 (p : SR) : Array Value := #[.bool p.f0, .string p.f1, .string p.f2]
abbrev lit2 (p q : SR) : Array Value := #[.bool p.f0, .string p.f1, .string p.f2, .bool q.f0, .string q.f1, .string q.f2]
theorem rowC1 (p : SR) : rowC [p] = lit1 p := by simp [rowC]
theorem rowC2 (p q : SR) : rowC [p, q] = lit2 p q := by simp [rowC]
theorem bk_alloc {W : World} {o x : Obj} {k : Nat} (h : W.heap[k]? = some x) : (W.alloc o).heap[k]? = some x := (Below.heap_alloc _ _ _ (heap_lt h)).trans h
theorem bk_new {W : World} {o : Obj} {k : Nat} (h : k = W.heap.size) : (W.alloc o).heap[k]? = some (o) := by rw [h]; exact World.alloc_heap_new _ _
theorem bk_newC {W : World} {cs : Array Value} {ty : TypeId} {k : Nat} (h : k = W.heap.size) : (W.alloc (.cells cs ty)).heap[k]? = some (.cells cs ty (0, 0)) := bk_new h
theorem bk_below {W W' : World} {x : Obj} {k : Nat} (hb : Below W.heap.size W W') (h : W.heap[k]? = some x) : W'.heap[k]? = some x := (hb.block _ (heap_lt h)).trans h
theorem bk_drew {W : World} {x : Obj} {k : Nat} (h : W.heap[k]? = some x) : W.drew.heap[k]? = some x := h
theorem sysAt {W : World} {a b c : Nat} {p q r s : SR} (h : W.heap[c]? = some (.cells #[.slice (some ⟨a, 0, none⟩) 2 2, .slice (some ⟨b, 0, none⟩) 2 2] 23 (0, 0)))
    (ha : W.heap[a]? = some (.cells (lit2 p q) 31 (0, 0))) (hb : W.heap[b]? = some (.cells (lit2 r s) 31 (0, 0))) : Kd.C (Kd.slice 31 kR) W (some ⟨c, 0, none⟩) 2 [[p, q], [r, s]] := by
  refine rows_C (l := [[p, q], [r, s]]) (vs := [.slice (some ⟨a, 0, none⟩) 2 2, .slice (some ⟨b, 0, none⟩) 2 2]) h rfl (by simp) (fun j xs hj => ?_)
  match j, hj with
  | 0, hj => injection hj with hj; subst hj; exact ⟨_, _, rfl, Nat.le_refl _, row_C (xs := [p, q]) (ha.trans (by rw [rowC2])) (by simp)⟩
  | 1, hj => injection hj with hj; subst hj; exact ⟨_, _, rfl, Nat.le_refl _, row_C (xs := [r, s]) (hb.trans (by rw [rowC2])) (by simp)⟩
theorem sysAt1 {W : World} {a c : Nat} {p : SR} (h : W.heap[c]? = some (.cells #[.slice (some ⟨a, 0, none⟩) 1 1] 23 (0, 0)))
    (ha : W.heap[a]? = some (.cells (lit1 p) 31 (0, 0))) : Kd.C (Kd.slice 31 kR) W (some ⟨c, 0, none⟩) 1 [[p]] := by
  refine rows_C (l := [[p]]) (vs := [.slice (some ⟨a, 0, none⟩) 1 1]) h rfl (by simp) (fun j xs hj => ?_)
  match j, hj with
  | 0, hj => injection hj with hj; subst hj; exact ⟨_, _, rfl, Nat.le_refl _, row_C (xs := [p]) (ha.trans (by rw [rowC1])) (by simp)⟩
theorem rhsAt {W : World} {a : Nat} {p q : SR} (ha : W.heap[a]? = some (.cells (lit2 p q) 31 (0, 0))) : Kd.C kR W (some ⟨a, 0, none⟩) 2 [p, q] := row_C (xs := [p, q]) (ha.trans (by rw [rowC2])) (by simp)
theorem rhsAt1 {W : World} {a : Nat} {p : SR} (ha : W.heap[a]? = some (.cells (lit1 p) 31 (0, 0))) : Kd.C kR W (some ⟨a, 0, none⟩) 1 [p] := row_C (xs := [p]) (ha.trans (by rw [rowC1])) (by simp)
/-- Solve at a system that the call laid. -/
theorem solve_at (n : Nat) (A0 A1 : Option Addr) (l0 : List (List SR)) (l1 r1 : List SR) (r2 : Int) (W : World) (hT : Tab W) (h0 : Kd.C (Kd.slice 31 kR) W A0 n l0) (h1 : Kd.C kR W A1 n l1) (h : linear_Solve.f l0 l1 = some (r1, r2)) :
    Calls Tryz.prog 12 #[.slice A0 n n, .slice A1 n n] W fun e w' => ∃ v0_ : Value, e = .returned (.tuple #[v0_, .int .i64 r2]) ∧ Kd.R kR 31 w' W.heap.size (fun _ => True) v0_ r1 ∧ Below W.heap.size W w' := by
  obtain rfl := h0.1
  have e1 := h1.1
  have := linear_Solve.calls A0 l0.length l0 A1 l0.length l1 r1 r2 W hT h0 (Nat.le_refl _) (by rw [e1]; exact h1) (by rw [e1]; exact Nat.le_refl _) h
  rwa [e1] at this
theorem same_at {W : World} (n m : Nat) (A0 : Option Addr) (c0 : Nat) (A1 : Option Addr) (c1 : Nat) (l0 l1 : List SR) (_u : Unit) (h0 : Kd.C kR W A0 n l0) (hc0 : n ≤ c0) (h1 : Kd.C kR W A1 m l1 ∧ m ≤ c1) (h : customhouseref19_Same.f 9 l0 l1 = some true) :
    Calls Tryz.prog 14 #[.slice A0 n c0, .slice A1 m c1] W fun e w' => e = .returned (.bool true) ∧ Below W.heap.size W w' := by
  obtain rfl := h0.1
  obtain ⟨h1, hc1⟩ := h1
  obtain rfl := h1.1
  refine (customhouseref19_Same.calls 9 A0 c0 l0 A1 c1 l1 true W h0 hc0 h1 hc1 h).mono ?_
  rintro e w' ⟨rfl, nd, rfl⟩
  exact ⟨rfl, pw_below_drewN (Below.refl _ _) nd⟩
theorem rhsAtS {W : World} {a : Nat} {p q : SR} (ha : W.heap[a]? = some (.cells (lit2 p q) 31 (0, 0))) : Kd.C kR W (some ⟨a, 0, none⟩) 2 [p, q] ∧ 2 ≤ 2 := ⟨rhsAt ha, Nat.le_refl _⟩
theorem rhsAtS1 {W : World} {a : Nat} {p : SR} (ha : W.heap[a]? = some (.cells (lit1 p) 31 (0, 0))) : Kd.C kR W (some ⟨a, 0, none⟩) 1 [p] ∧ 1 ≤ 1 := ⟨rhsAt1 ha, Nat.le_refl _⟩
theorem nilC {W : World} : Kd.C kR W none 0 [] := ⟨rfl, by omega, fun h => absurd h (by omega)⟩
theorem nilC2 {W : World} : Kd.C (Kd.slice 31 kR) W none 0 [] := ⟨rfl, by omega, fun h => absurd h (by omega)⟩
def slots5 : List Nat := [40, 41, 42, 43, 44, 45, 46, 47, 48, 49, 50, 39, 51, 52, 7, 8]
def idx5 (j : Nat) : Option Nat := if j = 7 then some 14 else if j = 8 then some 15 else if j = 39 then some 11 else if j = 51 then some 12 else if j = 52 then some 13 else if 40 ≤ j ∧ j ≤ 50 then some (j - 40) else none
theorem idx5_lt {j i : Nat} (h : idx5 j = some i) : j < 53 := by
  unfold idx5 at h
  repeat' split at h
  all_goals first | omega | (cases h)
theorem slots5_ok : ∀ j i, idx5 j = some i → slots5.getD i 0 = j := by
  intro j i h
  unfold idx5 at h
  repeat' split at h
  all_goals first | (injection h with h; subst h; subst_vars; rfl) | (cases h) | skip
  have hj : j = 40 ∨ j = 41 ∨ j = 42 ∨ j = 43 ∨ j = 44 ∨ j = 45 ∨ j = 46 ∨ j = 47 ∨ j = 48 ∨ j = 49 ∨ j = 50 := by omega
  rcases hj with rfl | rfl | rfl | rfl | rfl | rfl | rfl | rfl | rfl | rfl | rfl <;> rfl
def P5 (B : Nat) : Nat → Value → World → Prop
  | 0, v, _ => v = vS (numV 0)
  | 1, v, _ => v = vS (numV 1)
  | 2, v, w => ∃ b, v = .slice (some ⟨b, 0, none⟩) 2 2 ∧ w.heap[b]? = some (.cells (lit2 (numV 0) (numV 1)) 31 (0, 0))
  | 3, v, _ => v = vS (numV 1)
  | 4, v, _ => v = vS (numV 0)
  | 5, v, w => ∃ b, v = .slice (some ⟨b, 0, none⟩) 2 2 ∧ w.heap[b]? = some (.cells (lit2 (numV 1) (numV 0)) 31 (0, 0))
  | 6, v, w => ∃ c, v = .slice (some ⟨c, 0, none⟩) 2 2 ∧ Kd.C (Kd.slice 31 kR) w (some ⟨c, 0, none⟩) 2 [[numV 0, numV 1], [numV 1, numV 0]]
  | 7, v, _ => v = vS (numV 5)
  | 8, v, _ => v = vS ⟨false, ⟨#[49]⟩, ⟨#[51]⟩⟩
  | 9, v, w => ∃ b, v = .slice (some ⟨b, 0, none⟩) 2 2 ∧ Kd.C kR w (some ⟨b, 0, none⟩) 2 [numV 5, ⟨false, ⟨#[49]⟩, ⟨#[51]⟩⟩]
  | 10, v, w => ∃ s, v = .tuple #[s, .int .i64 0] ∧ Kd.R kR 31 w B (fun _ => True) s [nS false [49] [51], numV 5]
  | 11, v, w => ∃ s, v = .tuple #[s, .int .i64 0] ∧ Kd.R kR 31 w B (fun _ => True) s [nS false [49] [51], numV 5]
  | 12, v, w => Kd.R kR 31 w B (fun _ => True) v [nS false [49] [51], numV 5]
  | 13, v, _ => v = .int .i64 0
  | 14, v, w => Kd.R kR 31 w B (fun _ => True) v [nS false [49] [51], numV 5]
  | 15, v, _ => v = .int .i64 0
  | _, _, _ => True
theorem P5_mono {X w1 w2 : World} {B i : Nat} {v : Value} (hb : Below X.heap.size X w1) (h : P5 B i v w1) (hb2 : Below w1.heap.size w1 w2) (hB : B ≤ w1.heap.size) : P5 B i v w2 := by
  match i, h with
  | 0, h | 1, h | 3, h | 4, h | 7, h | 8, h | 13, h | 15, h => exact h
  | 2, h | 5, h => obtain ⟨b, h1, h2⟩ := h; exact ⟨b, h1, bk_below hb2 h2⟩
  | 6, h | 9, h => obtain ⟨b, h1, h2⟩ := h; exact ⟨b, h1, Kd.C_below h2 hb2⟩
  | 10, h | 11, h => obtain ⟨s, h1, h2⟩ := h; exact ⟨s, h1, Kd.R_below h2 hb2⟩
  | 12, h | 14, h => exact Kd.R_below h hb2
  | i + 16, _ => trivial
def customhouselaw19_head.f : Option Bool := some true
set_option maxRecDepth 100000 in
set_option maxHeartbeats 1000000 in
theorem customhouselaw19_head.calls (r : Bool) (w : World) (hTab : Tab w) (h : customhouselaw19_head.f = some r) :
    Calls Tryz.prog 10 #[] w fun e w' => e = .returned (.bool r) ∧ Below w.heap.size w w' := by
  obtain rfl : true = r := Option.some.inj h
  have HT := Lib.hid hTab
  have NUM := Lib.hid (fun k hk w h => num_calls k w h hk)
  clear hTab h
  go_enter Tryz.func10, Tryz.ntmps10
  go_upto_region 3 with fail
  obtain ⟨X3, hX3⟩ : ∃ X3, (w.alloc (.cells #[.bool false, .string ⟨#[49]⟩, .string ⟨#[50]⟩] 31)).alloc (.cells #[.bool false, .string ⟨#[49]⟩, .string ⟨#[51]⟩] 31) = X3 := ⟨_, rfl⟩
  obtain ⟨g0, g1, hb0⟩ := two _ _ _ _ hX3.symm
  rw [hX3]
  have G3 : Hid (BoxS X3 w.heap.size (nS false [49] [50])) := Lib.hid g0
  have K3 : Hid (BoxS X3 (w.heap.size + 1) (nS false [49] [51])) := Lib.hid g1
  have C3 := Lib.hid hb0
  have TX3 := Lib.hid (HT.out.below hb0)
  clear hX3 g0 g1 hb0
  go_cut [3, 4] (fun sa sb wx => sb = .int .i64 0 ∧ Hid (Kd.R kR 31 wx w.heap.size (fun _ => True) sa [(nS false [49] [50])]) ∧ Hid (Below X3.heap.size X3 wx))
  case first =>
    go_wp2_with (first
      | (go_at_call 17; with_reducible refine (NUM.out _ ?sk _ (TX3.out.below ?sb)).mono ?_; (case sk => decide); (case sb => (first | exact (Below.refl _ X3) | exact (below_alloc (Below.refl _ X3) _) | exact (below_alloc (Below.refl _ X3) _).drew | exact (below_alloc (below_alloc (Below.refl _ X3) _) _) | exact (below_alloc (below_alloc (Below.refl _ X3) _) _).drew | exact (below_alloc (below_alloc (below_alloc (Below.refl _ X3) _) _) _) | exact (below_alloc (below_alloc (below_alloc (Below.refl _ X3) _) _) _).drew | exact (below_alloc (below_alloc (below_alloc (below_alloc (Below.refl _ X3) _) _) _) _) | exact (below_alloc (below_alloc (below_alloc (below_alloc (Below.refl _ X3) _) _) _) _).drew | exact (Below.refl _ X3).drew | exact (below_alloc (Below.refl _ X3).drew _) | exact (below_alloc (below_alloc (Below.refl _ X3).drew _) _) | exact (below_alloc (below_alloc (below_alloc (Below.refl _ X3).drew _) _) _) | exact (below_alloc (below_alloc (below_alloc (below_alloc (Below.refl _ X3).drew _) _) _) _))); rintro e w1 ⟨rfl, hb1⟩; have hb1 := Lib.hid hb1; have B1 := Lib.hid (below_step (by first | exact (Below.refl _ X3) | exact (below_alloc (Below.refl _ X3) _) | exact (below_alloc (Below.refl _ X3) _).drew | exact (below_alloc (below_alloc (Below.refl _ X3) _) _) | exact (below_alloc (below_alloc (Below.refl _ X3) _) _).drew | exact (below_alloc (below_alloc (below_alloc (Below.refl _ X3) _) _) _) | exact (below_alloc (below_alloc (below_alloc (Below.refl _ X3) _) _) _).drew | exact (below_alloc (below_alloc (below_alloc (below_alloc (Below.refl _ X3) _) _) _) _) | exact (below_alloc (below_alloc (below_alloc (below_alloc (Below.refl _ X3) _) _) _) _).drew | exact (Below.refl _ X3).drew | exact (below_alloc (Below.refl _ X3).drew _) | exact (below_alloc (below_alloc (Below.refl _ X3).drew _) _) | exact (below_alloc (below_alloc (below_alloc (Below.refl _ X3).drew _) _) _) | exact (below_alloc (below_alloc (below_alloc (below_alloc (Below.refl _ X3).drew _) _) _) _)) hb1.out))
      | (go_at_call 17; with_reducible refine (NUM.out _ ?sk _ (TX3.out.below ?sb)).mono ?_; (case sk => decide); (case sb => (first | exact B1.out | exact (below_alloc B1.out _) | exact (below_alloc (below_alloc B1.out _) _) | exact (below_alloc (below_alloc (below_alloc B1.out _) _) _) | exact (below_alloc (below_alloc (below_alloc (below_alloc B1.out _) _) _) _))); rintro e w2 ⟨rfl, hb2⟩; have hb2 := Lib.hid hb2; have B2 := Lib.hid (below_step (by first | exact B1.out | exact (below_alloc B1.out _) | exact (below_alloc (below_alloc B1.out _) _) | exact (below_alloc (below_alloc (below_alloc B1.out _) _) _) | exact (below_alloc (below_alloc (below_alloc (below_alloc B1.out _) _) _) _)) hb2.out))
      | (go_at_call 12; with_reducible refine (solve_at 1 _ _ [[(numV 2)]] [(numV 1)] [(nS false [49] [50])] 0 _ (TX3.out.below ?sb) ?s0 ?s1 ?sf).mono ?_; (case sf => kernel_rfl); (case sb => (first | exact B2.out | exact (below_alloc B2.out _) | exact (below_alloc (below_alloc B2.out _) _) | exact (below_alloc (below_alloc (below_alloc B2.out _) _) _) | exact (below_alloc (below_alloc (below_alloc (below_alloc B2.out _) _) _) _))); (case s0 => (apply sysAt1; ((try (first | exact bk_newC rfl | exact bk_newC (by simp; done) | refine bk_below hb2.out ?_ | refine bk_below hb1.out ?_ | refine bk_alloc ?_ | refine bk_drew ?_)); (try (first | exact bk_newC rfl | exact bk_newC (by simp; done) | refine bk_below hb2.out ?_ | refine bk_below hb1.out ?_ | refine bk_alloc ?_ | refine bk_drew ?_)); (try (first | exact bk_newC rfl | exact bk_newC (by simp; done) | refine bk_below hb2.out ?_ | refine bk_below hb1.out ?_ | refine bk_alloc ?_ | refine bk_drew ?_)); (try (first | exact bk_newC rfl | exact bk_newC (by simp; done) | refine bk_below hb2.out ?_ | refine bk_below hb1.out ?_ | refine bk_alloc ?_ | refine bk_drew ?_)); (try (first | exact bk_newC rfl | exact bk_newC (by simp; done) | refine bk_below hb2.out ?_ | refine bk_below hb1.out ?_ | refine bk_alloc ?_ | refine bk_drew ?_)); (try (first | exact bk_newC rfl | exact bk_newC (by simp; done) | refine bk_below hb2.out ?_ | refine bk_below hb1.out ?_ | refine bk_alloc ?_ | refine bk_drew ?_)); (try (first | exact bk_newC rfl | exact bk_newC (by simp; done) | refine bk_below hb2.out ?_ | refine bk_below hb1.out ?_ | refine bk_alloc ?_ | refine bk_drew ?_))); ((try (first | exact bk_newC rfl | exact bk_newC (by simp; done) | refine bk_below hb2.out ?_ | refine bk_below hb1.out ?_ | refine bk_alloc ?_ | refine bk_drew ?_)); (try (first | exact bk_newC rfl | exact bk_newC (by simp; done) | refine bk_below hb2.out ?_ | refine bk_below hb1.out ?_ | refine bk_alloc ?_ | refine bk_drew ?_)); (try (first | exact bk_newC rfl | exact bk_newC (by simp; done) | refine bk_below hb2.out ?_ | refine bk_below hb1.out ?_ | refine bk_alloc ?_ | refine bk_drew ?_)); (try (first | exact bk_newC rfl | exact bk_newC (by simp; done) | refine bk_below hb2.out ?_ | refine bk_below hb1.out ?_ | refine bk_alloc ?_ | refine bk_drew ?_)); (try (first | exact bk_newC rfl | exact bk_newC (by simp; done) | refine bk_below hb2.out ?_ | refine bk_below hb1.out ?_ | refine bk_alloc ?_ | refine bk_drew ?_)); (try (first | exact bk_newC rfl | exact bk_newC (by simp; done) | refine bk_below hb2.out ?_ | refine bk_below hb1.out ?_ | refine bk_alloc ?_ | refine bk_drew ?_)); (try (first | exact bk_newC rfl | exact bk_newC (by simp; done) | refine bk_below hb2.out ?_ | refine bk_below hb1.out ?_ | refine bk_alloc ?_ | refine bk_drew ?_))))); (case s1 => (apply rhsAt1; ((try (first | exact bk_newC rfl | exact bk_newC (by simp; done) | refine bk_below hb2.out ?_ | refine bk_below hb1.out ?_ | refine bk_alloc ?_ | refine bk_drew ?_)); (try (first | exact bk_newC rfl | exact bk_newC (by simp; done) | refine bk_below hb2.out ?_ | refine bk_below hb1.out ?_ | refine bk_alloc ?_ | refine bk_drew ?_)); (try (first | exact bk_newC rfl | exact bk_newC (by simp; done) | refine bk_below hb2.out ?_ | refine bk_below hb1.out ?_ | refine bk_alloc ?_ | refine bk_drew ?_)); (try (first | exact bk_newC rfl | exact bk_newC (by simp; done) | refine bk_below hb2.out ?_ | refine bk_below hb1.out ?_ | refine bk_alloc ?_ | refine bk_drew ?_)); (try (first | exact bk_newC rfl | exact bk_newC (by simp; done) | refine bk_below hb2.out ?_ | refine bk_below hb1.out ?_ | refine bk_alloc ?_ | refine bk_drew ?_)); (try (first | exact bk_newC rfl | exact bk_newC (by simp; done) | refine bk_below hb2.out ?_ | refine bk_below hb1.out ?_ | refine bk_alloc ?_ | refine bk_drew ?_)); (try (first | exact bk_newC rfl | exact bk_newC (by simp; done) | refine bk_below hb2.out ?_ | refine bk_below hb1.out ?_ | refine bk_alloc ?_ | refine bk_drew ?_))))); rintro e wS ⟨vS, rfl, hR, hbS⟩; have HR := Lib.hid hR; have HBS := Lib.hid (below_step (by first | exact B2.out | exact (below_alloc B2.out _) | exact (below_alloc (below_alloc B2.out _) _) | exact (below_alloc (below_alloc (below_alloc B2.out _) _) _) | exact (below_alloc (below_alloc (below_alloc (below_alloc B2.out _) _) _) _)) hbS); clear hR hbS))
    go_meet
    exact ⟨rfl, Lib.hid (Kd.R_lower HR.out (Nat.le_trans C3.out.size (below_size (by first | exact B2.out | exact (below_alloc B2.out _) | exact (below_alloc (below_alloc B2.out _) _) | exact (below_alloc (below_alloc (below_alloc B2.out _) _) _) | exact (below_alloc (below_alloc (below_alloc (below_alloc B2.out _) _) _) _))))), HBS⟩
  case rest =>
  obtain ⟨rfl, R3, HW⟩ := hcut
  obtain ⟨X4, rfl⟩ : ∃ X, X = wc := ⟨wc, rfl⟩
  have G4 := Lib.hid (G3.out.below HW.out)
  have K4 := Lib.hid (K3.out.below HW.out)
  have C4 := Lib.hid (below_step C3.out HW.out)
  have TX4 := Lib.hid (TX3.out.below HW.out)
  clear HW G3 K3 C3 TX3
  skip
  go_upto_region 4 with fail
  go_cut [5, 6] (fun sa sb wx => sb = .int .i64 0 ∧ Hid (Kd.R kR 31 wx w.heap.size (fun _ => True) sa [(numV 2), (numV 1)]) ∧ Hid (Below X4.heap.size X4 wx))
  case first =>
    go_wp2_with (first
      | (go_at_call 17; with_reducible refine (NUM.out _ ?sk _ (TX4.out.below ?sb)).mono ?_; (case sk => decide); (case sb => (first | exact (Below.refl _ X4) | exact (below_alloc (Below.refl _ X4) _) | exact (below_alloc (Below.refl _ X4) _).drew | exact (below_alloc (below_alloc (Below.refl _ X4) _) _) | exact (below_alloc (below_alloc (Below.refl _ X4) _) _).drew | exact (below_alloc (below_alloc (below_alloc (Below.refl _ X4) _) _) _) | exact (below_alloc (below_alloc (below_alloc (Below.refl _ X4) _) _) _).drew | exact (below_alloc (below_alloc (below_alloc (below_alloc (Below.refl _ X4) _) _) _) _) | exact (below_alloc (below_alloc (below_alloc (below_alloc (Below.refl _ X4) _) _) _) _).drew | exact (Below.refl _ X4).drew | exact (below_alloc (Below.refl _ X4).drew _) | exact (below_alloc (below_alloc (Below.refl _ X4).drew _) _) | exact (below_alloc (below_alloc (below_alloc (Below.refl _ X4).drew _) _) _) | exact (below_alloc (below_alloc (below_alloc (below_alloc (Below.refl _ X4).drew _) _) _) _))); rintro e w1 ⟨rfl, hb1⟩; have hb1 := Lib.hid hb1; have B1 := Lib.hid (below_step (by first | exact (Below.refl _ X4) | exact (below_alloc (Below.refl _ X4) _) | exact (below_alloc (Below.refl _ X4) _).drew | exact (below_alloc (below_alloc (Below.refl _ X4) _) _) | exact (below_alloc (below_alloc (Below.refl _ X4) _) _).drew | exact (below_alloc (below_alloc (below_alloc (Below.refl _ X4) _) _) _) | exact (below_alloc (below_alloc (below_alloc (Below.refl _ X4) _) _) _).drew | exact (below_alloc (below_alloc (below_alloc (below_alloc (Below.refl _ X4) _) _) _) _) | exact (below_alloc (below_alloc (below_alloc (below_alloc (Below.refl _ X4) _) _) _) _).drew | exact (Below.refl _ X4).drew | exact (below_alloc (Below.refl _ X4).drew _) | exact (below_alloc (below_alloc (Below.refl _ X4).drew _) _) | exact (below_alloc (below_alloc (below_alloc (Below.refl _ X4).drew _) _) _) | exact (below_alloc (below_alloc (below_alloc (below_alloc (Below.refl _ X4).drew _) _) _) _)) hb1.out))
      | (go_at_call 17; with_reducible refine (NUM.out _ ?sk _ (TX4.out.below ?sb)).mono ?_; (case sk => decide); (case sb => (first | exact B1.out | exact (below_alloc B1.out _) | exact (below_alloc (below_alloc B1.out _) _) | exact (below_alloc (below_alloc (below_alloc B1.out _) _) _) | exact (below_alloc (below_alloc (below_alloc (below_alloc B1.out _) _) _) _))); rintro e w2 ⟨rfl, hb2⟩; have hb2 := Lib.hid hb2; have B2 := Lib.hid (below_step (by first | exact B1.out | exact (below_alloc B1.out _) | exact (below_alloc (below_alloc B1.out _) _) | exact (below_alloc (below_alloc (below_alloc B1.out _) _) _) | exact (below_alloc (below_alloc (below_alloc (below_alloc B1.out _) _) _) _)) hb2.out))
      | (go_at_call 17; with_reducible refine (NUM.out _ ?sk _ (TX4.out.below ?sb)).mono ?_; (case sk => decide); (case sb => (first | exact B2.out | exact (below_alloc B2.out _) | exact (below_alloc (below_alloc B2.out _) _) | exact (below_alloc (below_alloc (below_alloc B2.out _) _) _) | exact (below_alloc (below_alloc (below_alloc (below_alloc B2.out _) _) _) _))); rintro e w3 ⟨rfl, hb3⟩; have hb3 := Lib.hid hb3; have B3 := Lib.hid (below_step (by first | exact B2.out | exact (below_alloc B2.out _) | exact (below_alloc (below_alloc B2.out _) _) | exact (below_alloc (below_alloc (below_alloc B2.out _) _) _) | exact (below_alloc (below_alloc (below_alloc (below_alloc B2.out _) _) _) _)) hb3.out))
      | (go_at_call 17; with_reducible refine (NUM.out _ ?sk _ (TX4.out.below ?sb)).mono ?_; (case sk => decide); (case sb => (first | exact B3.out | exact (below_alloc B3.out _) | exact (below_alloc (below_alloc B3.out _) _) | exact (below_alloc (below_alloc (below_alloc B3.out _) _) _) | exact (below_alloc (below_alloc (below_alloc (below_alloc B3.out _) _) _) _))); rintro e w4 ⟨rfl, hb4⟩; have hb4 := Lib.hid hb4; have B4 := Lib.hid (below_step (by first | exact B3.out | exact (below_alloc B3.out _) | exact (below_alloc (below_alloc B3.out _) _) | exact (below_alloc (below_alloc (below_alloc B3.out _) _) _) | exact (below_alloc (below_alloc (below_alloc (below_alloc B3.out _) _) _) _)) hb4.out))
      | (go_at_call 17; with_reducible refine (NUM.out _ ?sk _ (TX4.out.below ?sb)).mono ?_; (case sk => decide); (case sb => (first | exact B4.out | exact (below_alloc B4.out _) | exact (below_alloc (below_alloc B4.out _) _) | exact (below_alloc (below_alloc (below_alloc B4.out _) _) _) | exact (below_alloc (below_alloc (below_alloc (below_alloc B4.out _) _) _) _))); rintro e w5 ⟨rfl, hb5⟩; have hb5 := Lib.hid hb5; have B5 := Lib.hid (below_step (by first | exact B4.out | exact (below_alloc B4.out _) | exact (below_alloc (below_alloc B4.out _) _) | exact (below_alloc (below_alloc (below_alloc B4.out _) _) _) | exact (below_alloc (below_alloc (below_alloc (below_alloc B4.out _) _) _) _)) hb5.out))
      | (go_at_call 17; with_reducible refine (NUM.out _ ?sk _ (TX4.out.below ?sb)).mono ?_; (case sk => decide); (case sb => (first | exact B5.out | exact (below_alloc B5.out _) | exact (below_alloc (below_alloc B5.out _) _) | exact (below_alloc (below_alloc (below_alloc B5.out _) _) _) | exact (below_alloc (below_alloc (below_alloc (below_alloc B5.out _) _) _) _))); rintro e w6 ⟨rfl, hb6⟩; have hb6 := Lib.hid hb6; have B6 := Lib.hid (below_step (by first | exact B5.out | exact (below_alloc B5.out _) | exact (below_alloc (below_alloc B5.out _) _) | exact (below_alloc (below_alloc (below_alloc B5.out _) _) _) | exact (below_alloc (below_alloc (below_alloc (below_alloc B5.out _) _) _) _)) hb6.out))
      | (go_at_call 12; with_reducible refine (solve_at 2 _ _ [[(numV 1), (numV 1)], [(numV 1), (numV (-1))]] [(numV 3), (numV 1)] [(numV 2), (numV 1)] 0 _ (TX4.out.below ?sb) ?s0 ?s1 ?sf).mono ?_; (case sf => kernel_rfl); (case sb => (first | exact B6.out | exact (below_alloc B6.out _) | exact (below_alloc (below_alloc B6.out _) _) | exact (below_alloc (below_alloc (below_alloc B6.out _) _) _) | exact (below_alloc (below_alloc (below_alloc (below_alloc B6.out _) _) _) _))); (case s0 => (apply sysAt; ((try (first | exact bk_newC rfl | exact bk_newC (by simp; done) | refine bk_below hb6.out ?_ | refine bk_below hb5.out ?_ | refine bk_below hb4.out ?_ | refine bk_below hb3.out ?_ | refine bk_below hb2.out ?_ | refine bk_below hb1.out ?_ | refine bk_alloc ?_ | refine bk_drew ?_)); (try (first | exact bk_newC rfl | exact bk_newC (by simp; done) | refine bk_below hb6.out ?_ | refine bk_below hb5.out ?_ | refine bk_below hb4.out ?_ | refine bk_below hb3.out ?_ | refine bk_below hb2.out ?_ | refine bk_below hb1.out ?_ | refine bk_alloc ?_ | refine bk_drew ?_)); (try (first | exact bk_newC rfl | exact bk_newC (by simp; done) | refine bk_below hb6.out ?_ | refine bk_below hb5.out ?_ | refine bk_below hb4.out ?_ | refine bk_below hb3.out ?_ | refine bk_below hb2.out ?_ | refine bk_below hb1.out ?_ | refine bk_alloc ?_ | refine bk_drew ?_)); (try (first | exact bk_newC rfl | exact bk_newC (by simp; done) | refine bk_below hb6.out ?_ | refine bk_below hb5.out ?_ | refine bk_below hb4.out ?_ | refine bk_below hb3.out ?_ | refine bk_below hb2.out ?_ | refine bk_below hb1.out ?_ | refine bk_alloc ?_ | refine bk_drew ?_)); (try (first | exact bk_newC rfl | exact bk_newC (by simp; done) | refine bk_below hb6.out ?_ | refine bk_below hb5.out ?_ | refine bk_below hb4.out ?_ | refine bk_below hb3.out ?_ | refine bk_below hb2.out ?_ | refine bk_below hb1.out ?_ | refine bk_alloc ?_ | refine bk_drew ?_)); (try (first | exact bk_newC rfl | exact bk_newC (by simp; done) | refine bk_below hb6.out ?_ | refine bk_below hb5.out ?_ | refine bk_below hb4.out ?_ | refine bk_below hb3.out ?_ | refine bk_below hb2.out ?_ | refine bk_below hb1.out ?_ | refine bk_alloc ?_ | refine bk_drew ?_)); (try (first | exact bk_newC rfl | exact bk_newC (by simp; done) | refine bk_below hb6.out ?_ | refine bk_below hb5.out ?_ | refine bk_below hb4.out ?_ | refine bk_below hb3.out ?_ | refine bk_below hb2.out ?_ | refine bk_below hb1.out ?_ | refine bk_alloc ?_ | refine bk_drew ?_)); (try (first | exact bk_newC rfl | exact bk_newC (by simp; done) | refine bk_below hb6.out ?_ | refine bk_below hb5.out ?_ | refine bk_below hb4.out ?_ | refine bk_below hb3.out ?_ | refine bk_below hb2.out ?_ | refine bk_below hb1.out ?_ | refine bk_alloc ?_ | refine bk_drew ?_)); (try (first | exact bk_newC rfl | exact bk_newC (by simp; done) | refine bk_below hb6.out ?_ | refine bk_below hb5.out ?_ | refine bk_below hb4.out ?_ | refine bk_below hb3.out ?_ | refine bk_below hb2.out ?_ | refine bk_below hb1.out ?_ | refine bk_alloc ?_ | refine bk_drew ?_)); (try (first | exact bk_newC rfl | exact bk_newC (by simp; done) | refine bk_below hb6.out ?_ | refine bk_below hb5.out ?_ | refine bk_below hb4.out ?_ | refine bk_below hb3.out ?_ | refine bk_below hb2.out ?_ | refine bk_below hb1.out ?_ | refine bk_alloc ?_ | refine bk_drew ?_)); (try (first | exact bk_newC rfl | exact bk_newC (by simp; done) | refine bk_below hb6.out ?_ | refine bk_below hb5.out ?_ | refine bk_below hb4.out ?_ | refine bk_below hb3.out ?_ | refine bk_below hb2.out ?_ | refine bk_below hb1.out ?_ | refine bk_alloc ?_ | refine bk_drew ?_))); ((try (first | exact bk_newC rfl | exact bk_newC (by simp; done) | refine bk_below hb6.out ?_ | refine bk_below hb5.out ?_ | refine bk_below hb4.out ?_ | refine bk_below hb3.out ?_ | refine bk_below hb2.out ?_ | refine bk_below hb1.out ?_ | refine bk_alloc ?_ | refine bk_drew ?_)); (try (first | exact bk_newC rfl | exact bk_newC (by simp; done) | refine bk_below hb6.out ?_ | refine bk_below hb5.out ?_ | refine bk_below hb4.out ?_ | refine bk_below hb3.out ?_ | refine bk_below hb2.out ?_ | refine bk_below hb1.out ?_ | refine bk_alloc ?_ | refine bk_drew ?_)); (try (first | exact bk_newC rfl | exact bk_newC (by simp; done) | refine bk_below hb6.out ?_ | refine bk_below hb5.out ?_ | refine bk_below hb4.out ?_ | refine bk_below hb3.out ?_ | refine bk_below hb2.out ?_ | refine bk_below hb1.out ?_ | refine bk_alloc ?_ | refine bk_drew ?_)); (try (first | exact bk_newC rfl | exact bk_newC (by simp; done) | refine bk_below hb6.out ?_ | refine bk_below hb5.out ?_ | refine bk_below hb4.out ?_ | refine bk_below hb3.out ?_ | refine bk_below hb2.out ?_ | refine bk_below hb1.out ?_ | refine bk_alloc ?_ | refine bk_drew ?_)); (try (first | exact bk_newC rfl | exact bk_newC (by simp; done) | refine bk_below hb6.out ?_ | refine bk_below hb5.out ?_ | refine bk_below hb4.out ?_ | refine bk_below hb3.out ?_ | refine bk_below hb2.out ?_ | refine bk_below hb1.out ?_ | refine bk_alloc ?_ | refine bk_drew ?_)); (try (first | exact bk_newC rfl | exact bk_newC (by simp; done) | refine bk_below hb6.out ?_ | refine bk_below hb5.out ?_ | refine bk_below hb4.out ?_ | refine bk_below hb3.out ?_ | refine bk_below hb2.out ?_ | refine bk_below hb1.out ?_ | refine bk_alloc ?_ | refine bk_drew ?_)); (try (first | exact bk_newC rfl | exact bk_newC (by simp; done) | refine bk_below hb6.out ?_ | refine bk_below hb5.out ?_ | refine bk_below hb4.out ?_ | refine bk_below hb3.out ?_ | refine bk_below hb2.out ?_ | refine bk_below hb1.out ?_ | refine bk_alloc ?_ | refine bk_drew ?_)); (try (first | exact bk_newC rfl | exact bk_newC (by simp; done) | refine bk_below hb6.out ?_ | refine bk_below hb5.out ?_ | refine bk_below hb4.out ?_ | refine bk_below hb3.out ?_ | refine bk_below hb2.out ?_ | refine bk_below hb1.out ?_ | refine bk_alloc ?_ | refine bk_drew ?_)); (try (first | exact bk_newC rfl | exact bk_newC (by simp; done) | refine bk_below hb6.out ?_ | refine bk_below hb5.out ?_ | refine bk_below hb4.out ?_ | refine bk_below hb3.out ?_ | refine bk_below hb2.out ?_ | refine bk_below hb1.out ?_ | refine bk_alloc ?_ | refine bk_drew ?_)); (try (first | exact bk_newC rfl | exact bk_newC (by simp; done) | refine bk_below hb6.out ?_ | refine bk_below hb5.out ?_ | refine bk_below hb4.out ?_ | refine bk_below hb3.out ?_ | refine bk_below hb2.out ?_ | refine bk_below hb1.out ?_ | refine bk_alloc ?_ | refine bk_drew ?_)); (try (first | exact bk_newC rfl | exact bk_newC (by simp; done) | refine bk_below hb6.out ?_ | refine bk_below hb5.out ?_ | refine bk_below hb4.out ?_ | refine bk_below hb3.out ?_ | refine bk_below hb2.out ?_ | refine bk_below hb1.out ?_ | refine bk_alloc ?_ | refine bk_drew ?_))); ((try (first | exact bk_newC rfl | exact bk_newC (by simp; done) | refine bk_below hb6.out ?_ | refine bk_below hb5.out ?_ | refine bk_below hb4.out ?_ | refine bk_below hb3.out ?_ | refine bk_below hb2.out ?_ | refine bk_below hb1.out ?_ | refine bk_alloc ?_ | refine bk_drew ?_)); (try (first | exact bk_newC rfl | exact bk_newC (by simp; done) | refine bk_below hb6.out ?_ | refine bk_below hb5.out ?_ | refine bk_below hb4.out ?_ | refine bk_below hb3.out ?_ | refine bk_below hb2.out ?_ | refine bk_below hb1.out ?_ | refine bk_alloc ?_ | refine bk_drew ?_)); (try (first | exact bk_newC rfl | exact bk_newC (by simp; done) | refine bk_below hb6.out ?_ | refine bk_below hb5.out ?_ | refine bk_below hb4.out ?_ | refine bk_below hb3.out ?_ | refine bk_below hb2.out ?_ | refine bk_below hb1.out ?_ | refine bk_alloc ?_ | refine bk_drew ?_)); (try (first | exact bk_newC rfl | exact bk_newC (by simp; done) | refine bk_below hb6.out ?_ | refine bk_below hb5.out ?_ | refine bk_below hb4.out ?_ | refine bk_below hb3.out ?_ | refine bk_below hb2.out ?_ | refine bk_below hb1.out ?_ | refine bk_alloc ?_ | refine bk_drew ?_)); (try (first | exact bk_newC rfl | exact bk_newC (by simp; done) | refine bk_below hb6.out ?_ | refine bk_below hb5.out ?_ | refine bk_below hb4.out ?_ | refine bk_below hb3.out ?_ | refine bk_below hb2.out ?_ | refine bk_below hb1.out ?_ | refine bk_alloc ?_ | refine bk_drew ?_)); (try (first | exact bk_newC rfl | exact bk_newC (by simp; done) | refine bk_below hb6.out ?_ | refine bk_below hb5.out ?_ | refine bk_below hb4.out ?_ | refine bk_below hb3.out ?_ | refine bk_below hb2.out ?_ | refine bk_below hb1.out ?_ | refine bk_alloc ?_ | refine bk_drew ?_)); (try (first | exact bk_newC rfl | exact bk_newC (by simp; done) | refine bk_below hb6.out ?_ | refine bk_below hb5.out ?_ | refine bk_below hb4.out ?_ | refine bk_below hb3.out ?_ | refine bk_below hb2.out ?_ | refine bk_below hb1.out ?_ | refine bk_alloc ?_ | refine bk_drew ?_)); (try (first | exact bk_newC rfl | exact bk_newC (by simp; done) | refine bk_below hb6.out ?_ | refine bk_below hb5.out ?_ | refine bk_below hb4.out ?_ | refine bk_below hb3.out ?_ | refine bk_below hb2.out ?_ | refine bk_below hb1.out ?_ | refine bk_alloc ?_ | refine bk_drew ?_)); (try (first | exact bk_newC rfl | exact bk_newC (by simp; done) | refine bk_below hb6.out ?_ | refine bk_below hb5.out ?_ | refine bk_below hb4.out ?_ | refine bk_below hb3.out ?_ | refine bk_below hb2.out ?_ | refine bk_below hb1.out ?_ | refine bk_alloc ?_ | refine bk_drew ?_)); (try (first | exact bk_newC rfl | exact bk_newC (by simp; done) | refine bk_below hb6.out ?_ | refine bk_below hb5.out ?_ | refine bk_below hb4.out ?_ | refine bk_below hb3.out ?_ | refine bk_below hb2.out ?_ | refine bk_below hb1.out ?_ | refine bk_alloc ?_ | refine bk_drew ?_)); (try (first | exact bk_newC rfl | exact bk_newC (by simp; done) | refine bk_below hb6.out ?_ | refine bk_below hb5.out ?_ | refine bk_below hb4.out ?_ | refine bk_below hb3.out ?_ | refine bk_below hb2.out ?_ | refine bk_below hb1.out ?_ | refine bk_alloc ?_ | refine bk_drew ?_))))); (case s1 => (apply rhsAt; ((try (first | exact bk_newC rfl | exact bk_newC (by simp; done) | refine bk_below hb6.out ?_ | refine bk_below hb5.out ?_ | refine bk_below hb4.out ?_ | refine bk_below hb3.out ?_ | refine bk_below hb2.out ?_ | refine bk_below hb1.out ?_ | refine bk_alloc ?_ | refine bk_drew ?_)); (try (first | exact bk_newC rfl | exact bk_newC (by simp; done) | refine bk_below hb6.out ?_ | refine bk_below hb5.out ?_ | refine bk_below hb4.out ?_ | refine bk_below hb3.out ?_ | refine bk_below hb2.out ?_ | refine bk_below hb1.out ?_ | refine bk_alloc ?_ | refine bk_drew ?_)); (try (first | exact bk_newC rfl | exact bk_newC (by simp; done) | refine bk_below hb6.out ?_ | refine bk_below hb5.out ?_ | refine bk_below hb4.out ?_ | refine bk_below hb3.out ?_ | refine bk_below hb2.out ?_ | refine bk_below hb1.out ?_ | refine bk_alloc ?_ | refine bk_drew ?_)); (try (first | exact bk_newC rfl | exact bk_newC (by simp; done) | refine bk_below hb6.out ?_ | refine bk_below hb5.out ?_ | refine bk_below hb4.out ?_ | refine bk_below hb3.out ?_ | refine bk_below hb2.out ?_ | refine bk_below hb1.out ?_ | refine bk_alloc ?_ | refine bk_drew ?_)); (try (first | exact bk_newC rfl | exact bk_newC (by simp; done) | refine bk_below hb6.out ?_ | refine bk_below hb5.out ?_ | refine bk_below hb4.out ?_ | refine bk_below hb3.out ?_ | refine bk_below hb2.out ?_ | refine bk_below hb1.out ?_ | refine bk_alloc ?_ | refine bk_drew ?_)); (try (first | exact bk_newC rfl | exact bk_newC (by simp; done) | refine bk_below hb6.out ?_ | refine bk_below hb5.out ?_ | refine bk_below hb4.out ?_ | refine bk_below hb3.out ?_ | refine bk_below hb2.out ?_ | refine bk_below hb1.out ?_ | refine bk_alloc ?_ | refine bk_drew ?_)); (try (first | exact bk_newC rfl | exact bk_newC (by simp; done) | refine bk_below hb6.out ?_ | refine bk_below hb5.out ?_ | refine bk_below hb4.out ?_ | refine bk_below hb3.out ?_ | refine bk_below hb2.out ?_ | refine bk_below hb1.out ?_ | refine bk_alloc ?_ | refine bk_drew ?_)); (try (first | exact bk_newC rfl | exact bk_newC (by simp; done) | refine bk_below hb6.out ?_ | refine bk_below hb5.out ?_ | refine bk_below hb4.out ?_ | refine bk_below hb3.out ?_ | refine bk_below hb2.out ?_ | refine bk_below hb1.out ?_ | refine bk_alloc ?_ | refine bk_drew ?_)); (try (first | exact bk_newC rfl | exact bk_newC (by simp; done) | refine bk_below hb6.out ?_ | refine bk_below hb5.out ?_ | refine bk_below hb4.out ?_ | refine bk_below hb3.out ?_ | refine bk_below hb2.out ?_ | refine bk_below hb1.out ?_ | refine bk_alloc ?_ | refine bk_drew ?_)); (try (first | exact bk_newC rfl | exact bk_newC (by simp; done) | refine bk_below hb6.out ?_ | refine bk_below hb5.out ?_ | refine bk_below hb4.out ?_ | refine bk_below hb3.out ?_ | refine bk_below hb2.out ?_ | refine bk_below hb1.out ?_ | refine bk_alloc ?_ | refine bk_drew ?_)); (try (first | exact bk_newC rfl | exact bk_newC (by simp; done) | refine bk_below hb6.out ?_ | refine bk_below hb5.out ?_ | refine bk_below hb4.out ?_ | refine bk_below hb3.out ?_ | refine bk_below hb2.out ?_ | refine bk_below hb1.out ?_ | refine bk_alloc ?_ | refine bk_drew ?_))))); rintro e wS ⟨vS, rfl, hR, hbS⟩; have HR := Lib.hid hR; have HBS := Lib.hid (below_step (by first | exact B6.out | exact (below_alloc B6.out _) | exact (below_alloc (below_alloc B6.out _) _) | exact (below_alloc (below_alloc (below_alloc B6.out _) _) _) | exact (below_alloc (below_alloc (below_alloc (below_alloc B6.out _) _) _) _)) hbS); clear hR hbS))
    go_meet
    exact ⟨rfl, Lib.hid (Kd.R_lower HR.out (Nat.le_trans C4.out.size (below_size (by first | exact B6.out | exact (below_alloc B6.out _) | exact (below_alloc (below_alloc B6.out _) _) | exact (below_alloc (below_alloc (below_alloc B6.out _) _) _) | exact (below_alloc (below_alloc (below_alloc (below_alloc B6.out _) _) _) _))))), HBS⟩
  case rest =>
  obtain ⟨rfl, R4, HW⟩ := hcut
  obtain ⟨X5, rfl⟩ : ∃ X, X = wc := ⟨wc, rfl⟩
  have G5 := Lib.hid (G4.out.below HW.out)
  have K5 := Lib.hid (K4.out.below HW.out)
  have C5 := Lib.hid (below_step C4.out HW.out)
  have TX5 := Lib.hid (TX4.out.below HW.out)
  have R3 := Lib.hid (Kd.R_below R3.out HW.out)
  clear HW G4 K4 C4 TX4
  skip
  go_upto_region 5 with fail
  go_cut [7, 8] (fun sa sb wx => sb = .int .i64 0 ∧ Hid (Kd.R kR 31 wx w.heap.size (fun _ => True) sa [(nS false [49] [51]), (numV 5)]) ∧ Hid (Below X5.heap.size X5 wx))
  case first =>
    have HSS : Hid (∀ W, Below X5.heap.size X5 W → (W.cell? ⟨w.heap.size + 1, 0, none⟩ = some (.bool false) ∧ W.cell? ⟨w.heap.size + 1, 1, none⟩ = some (.string ⟨#[49]⟩) ∧ W.cell? ⟨w.heap.size + 1, 2, none⟩ = some (.string ⟨#[51]⟩))) := Lib.hid fun W hW => by
      obtain ⟨e0, e1, e2, _⟩ := box3 (K5.out.below hW)
      exact ⟨e0, e1, e2⟩
    refine region_inv_slots (n := 16) idx5 slots5 (P5 w.heap.size) X5 _ slots5_ok (fun j i h => Nat.lt_of_lt_of_le (idx5_lt h) (Nat.le_of_ble_eq_true rfl)) (by kernel_rfl) rfl (by kernel_rfl) ?dst ?mono ?step ?done
    case dst =>
      intro i o hi ho
      match i, hi, ho with
      | 0, _, ho => obtain rfl := Option.some.inj ho; exact ⟨rfl, rfl⟩
      | 1, _, ho => obtain rfl := Option.some.inj ho; exact ⟨rfl, rfl⟩
      | 2, _, ho => obtain rfl := Option.some.inj ho; exact ⟨rfl, rfl⟩
      | 3, _, ho => obtain rfl := Option.some.inj ho; exact ⟨rfl, rfl⟩
      | 4, _, ho => obtain rfl := Option.some.inj ho; exact ⟨rfl, rfl⟩
      | 5, _, ho => obtain rfl := Option.some.inj ho; exact ⟨rfl, rfl⟩
      | 6, _, ho => obtain rfl := Option.some.inj ho; exact ⟨rfl, rfl⟩
      | 7, _, ho => obtain rfl := Option.some.inj ho; exact ⟨rfl, rfl⟩
      | 8, _, ho => obtain rfl := Option.some.inj ho; exact ⟨rfl, rfl⟩
      | 9, _, ho => obtain rfl := Option.some.inj ho; exact ⟨rfl, rfl⟩
      | 10, _, ho => obtain rfl := Option.some.inj ho; exact ⟨rfl, rfl⟩
      | 11, _, ho => obtain rfl := Option.some.inj ho; exact ⟨rfl, rfl⟩
      | 12, _, ho => obtain rfl := Option.some.inj ho; exact ⟨rfl, rfl⟩
      | 13, _, ho => obtain rfl := Option.some.inj ho; exact ⟨rfl, rfl⟩
      | 14, _, ho => obtain rfl := Option.some.inj ho; exact ⟨rfl, rfl⟩
      | 15, _, ho => obtain rfl := Option.some.inj ho; exact ⟨rfl, rfl⟩
    case mono =>
      intro i v w1 w2 hb h hb2
      exact P5_mono hb h hb2 (Nat.le_trans C5.out.size hb.size)
    case step =>
      intro i o vals w1 hi ho hb hdep hev hev0
      match i, hi, ho with
      | 0, _, ho =>
        obtain rfl := Option.some.inj ho
        refine goes_ Tryz.func17 (by kernel_rfl) rfl #[.int .i64 0] (by rfl) rfl rfl (by simp only [List.map_toArray, List.map_cons, List.map_nil]; rfl) ?_
        refine (NUM.out _ (by decide) _ (TX5.out.below hb)).mono ?_
        rintro e w' ⟨rfl, hb'⟩
        exact ⟨_, rfl, _, rfl, hb', rfl⟩
      | 1, _, ho =>
        obtain rfl := Option.some.inj ho
        refine goes_ Tryz.func17 (by kernel_rfl) rfl #[.int .i64 1] (by rfl) rfl rfl (by simp only [List.map_toArray, List.map_cons, List.map_nil]; rfl) ?_
        refine (NUM.out _ (by decide) _ (TX5.out.below hb)).mono ?_
        rintro e w' ⟨rfl, hb'⟩
        exact ⟨_, rfl, _, rfl, hb', rfl⟩
      | 2, _, ho =>
        obtain rfl := Option.some.inj ho
        have e0 : (fr _ idx5 vals).eval (.tmp 40) = vS (numV 0) := (hev 40 0 rfl).trans (hdep ⟨0, .data⟩ (by simp) rfl)
        have e1 : (fr _ idx5 vals).eval (.tmp 41) = vS (numV 1) := (hev 41 1 rfl).trans (hdep ⟨1, .data⟩ (by simp) rfl)
        refine value_ (w1 := w1.alloc (.cells (lit2 (numV 0) (numV 1)) 31)) (v := .slice (some ⟨w1.heap.size, 0, none⟩) 2 2) (by rfl) rfl ?_ ⟨_, rfl, (Below.refl _ w1).alloc (Nat.le_refl _) _, w1.heap.size, rfl, World.alloc_heap_new _ _⟩
        generalize (fr _ idx5 vals).eval = E at e0 e1 ⊢
        go_simp
      | 3, _, ho =>
        obtain rfl := Option.some.inj ho
        refine goes_ Tryz.func17 (by kernel_rfl) rfl #[.int .i64 1] (by rfl) rfl rfl (by simp only [List.map_toArray, List.map_cons, List.map_nil]; rfl) ?_
        refine (NUM.out _ (by decide) _ (TX5.out.below hb)).mono ?_
        rintro e w' ⟨rfl, hb'⟩
        exact ⟨_, rfl, _, rfl, hb', rfl⟩
      | 4, _, ho =>
        obtain rfl := Option.some.inj ho
        refine goes_ Tryz.func17 (by kernel_rfl) rfl #[.int .i64 0] (by rfl) rfl rfl (by simp only [List.map_toArray, List.map_cons, List.map_nil]; rfl) ?_
        refine (NUM.out _ (by decide) _ (TX5.out.below hb)).mono ?_
        rintro e w' ⟨rfl, hb'⟩
        exact ⟨_, rfl, _, rfl, hb', rfl⟩
      | 5, _, ho =>
        obtain rfl := Option.some.inj ho
        have e0 : (fr _ idx5 vals).eval (.tmp 43) = vS (numV 1) := (hev 43 3 rfl).trans (hdep ⟨3, .data⟩ (by simp) rfl)
        have e1 : (fr _ idx5 vals).eval (.tmp 44) = vS (numV 0) := (hev 44 4 rfl).trans (hdep ⟨4, .data⟩ (by simp) rfl)
        refine value_ (w1 := w1.alloc (.cells (lit2 (numV 1) (numV 0)) 31)) (v := .slice (some ⟨w1.heap.size, 0, none⟩) 2 2) (by rfl) rfl ?_ ⟨_, rfl, (Below.refl _ w1).alloc (Nat.le_refl _) _, w1.heap.size, rfl, World.alloc_heap_new _ _⟩
        generalize (fr _ idx5 vals).eval = E at e0 e1 ⊢
        go_simp
      | 6, _, ho =>
        obtain rfl := Option.some.inj ho
        obtain ⟨b2, h2, k2⟩ := hdep ⟨2, .data⟩ (by simp) rfl
        obtain ⟨b5, h5, k5⟩ := hdep ⟨5, .data⟩ (by simp) rfl
        have e0 : (fr _ idx5 vals).eval (.tmp 42) = _ := (hev 42 2 rfl).trans h2
        have e1 : (fr _ idx5 vals).eval (.tmp 45) = _ := (hev 45 5 rfl).trans h5
        refine value_ (w1 := w1.alloc (.cells #[.slice (some ⟨b2, 0, none⟩) 2 2, .slice (some ⟨b5, 0, none⟩) 2 2] 23)) (v := .slice (some ⟨w1.heap.size, 0, none⟩) 2 2) (by rfl) rfl ?_ ⟨_, rfl, (Below.refl _ w1).alloc (Nat.le_refl _) _, w1.heap.size, rfl, sysAt (World.alloc_heap_new _ _) (bk_alloc k2) (bk_alloc k5)⟩
        generalize (fr _ idx5 vals).eval = E at e0 e1 ⊢
        go_simp
      | 7, _, ho =>
        obtain rfl := Option.some.inj ho
        refine goes_ Tryz.func17 (by kernel_rfl) rfl #[.int .i64 5] (by rfl) rfl rfl (by simp only [List.map_toArray, List.map_cons, List.map_nil]; rfl) ?_
        refine (NUM.out _ (by decide) _ (TX5.out.below hb)).mono ?_
        rintro e w' ⟨rfl, hb'⟩
        exact ⟨_, rfl, _, rfl, hb', rfl⟩
      | 8, _, ho =>
        obtain rfl := Option.some.inj ho
        have e0 : (fr _ idx5 vals).eval (.tmp 2) = .pointer (some ⟨w.heap.size + 1, 0, none⟩) := (hev0 2 rfl).trans rfl
        obtain ⟨c0, c1, c2⟩ := HSS.out w1 hb
        refine value_ (w1 := w1) (v := vS (⟨false, ⟨#[49]⟩, ⟨#[51]⟩⟩ : SR)) (by rfl) rfl ?_ ⟨_, rfl, Below.refl _ _, rfl⟩
        generalize (fr _ idx5 vals).eval = E at e0 ⊢
        go_simp
      | 9, _, ho =>
        obtain rfl := Option.some.inj ho
        have e0 : (fr _ idx5 vals).eval (.tmp 47) = vS (numV 5) := (hev 47 7 rfl).trans (hdep ⟨7, .data⟩ (by simp) rfl)
        have e1 : (fr _ idx5 vals).eval (.tmp 48) = vS (⟨false, ⟨#[49]⟩, ⟨#[51]⟩⟩ : SR) := (hev 48 8 rfl).trans (hdep ⟨8, .data⟩ (by simp) rfl)
        refine value_ (w1 := w1.alloc (.cells (lit2 (numV 5) (⟨false, ⟨#[49]⟩, ⟨#[51]⟩⟩ : SR)) 31)) (v := .slice (some ⟨w1.heap.size, 0, none⟩) 2 2) (by rfl) rfl ?_ ⟨_, rfl, (Below.refl _ w1).alloc (Nat.le_refl _) _, w1.heap.size, rfl, rhsAt (World.alloc_heap_new _ _)⟩
        generalize (fr _ idx5 vals).eval = E at e0 e1 ⊢
        go_simp
      | 10, _, ho =>
        obtain rfl := Option.some.inj ho
        obtain ⟨c, h6, k6⟩ := hdep ⟨6, .data⟩ (by simp) rfl
        obtain ⟨b, h9, k9⟩ := hdep ⟨9, .data⟩ (by simp) rfl
        have e0 : (fr _ idx5 vals).eval (.tmp 46) = _ := (hev 46 6 rfl).trans h6
        have e1 : (fr _ idx5 vals).eval (.tmp 49) = _ := (hev 49 9 rfl).trans h9
        refine goes_ Tryz.func12 (by kernel_rfl) rfl #[.slice (some ⟨c, 0, none⟩) 2 2, .slice (some ⟨b, 0, none⟩) 2 2] (by rfl) rfl rfl (by simp only [List.map_toArray, List.map_cons, List.map_nil, e0, e1]) ?_
        refine (solve_at 2 _ _ [[numV 0, numV 1], [numV 1, numV 0]] [numV 5, (⟨false, ⟨#[49]⟩, ⟨#[51]⟩⟩ : SR)] [nS false [49] [51], numV 5] 0 _ (TX5.out.below hb) k6 k9 (by kernel_rfl)).mono ?_
        rintro e w' ⟨s, rfl, hR, hb'⟩
        exact ⟨_, rfl, _, rfl, hb', s, rfl, Kd.R_lower hR (Nat.le_trans C5.out.size hb.size)⟩
      | 11, _, ho =>
        obtain rfl := Option.some.inj ho
        obtain ⟨s, h, k⟩ := hdep ⟨10, .data⟩ (by simp) rfl
        have e0 : (fr _ idx5 vals).eval (.tmp 50) = _ := (hev 50 10 rfl).trans h
        refine value_ (w1 := w1) (v := .tuple #[s, .int .i64 0]) (by rfl) rfl ?_ ⟨_, rfl, Below.refl _ _, s, rfl, k⟩
        generalize (fr _ idx5 vals).eval = E at e0 ⊢
        go_simp
      | 12, _, ho =>
        obtain rfl := Option.some.inj ho
        obtain ⟨s, h, k⟩ := hdep ⟨11, .data⟩ (by simp) rfl
        have e0 : (fr _ idx5 vals).eval (.tmp 39) = _ := (hev 39 11 rfl).trans h
        refine value_ (w1 := w1) (v := s) (by rfl) rfl ?_ ⟨_, rfl, Below.refl _ _, k⟩
        generalize (fr _ idx5 vals).eval = E at e0 ⊢
        go_simp
      | 13, _, ho =>
        obtain rfl := Option.some.inj ho
        obtain ⟨s, h, k⟩ := hdep ⟨11, .data⟩ (by simp) rfl
        have e0 : (fr _ idx5 vals).eval (.tmp 39) = _ := (hev 39 11 rfl).trans h
        refine value_ (w1 := w1) (v := .int .i64 0) (by rfl) rfl ?_ ⟨_, rfl, Below.refl _ _, rfl⟩
        generalize (fr _ idx5 vals).eval = E at e0 ⊢
        go_simp
      | 14, _, ho =>
        obtain rfl := Option.some.inj ho
        have k : Kd.R kR 31 w1 w.heap.size (fun _ => True) (vals 12) _ := hdep ⟨12, .data⟩ (by simp) rfl
        have e0 : (fr _ idx5 vals).eval (.tmp 51) = _ := hev 51 12 rfl
        refine value_ (w1 := w1) (v := vals 12) (by rfl) rfl ?_ ⟨_, rfl, Below.refl _ _, k⟩
        generalize (fr _ idx5 vals).eval = E at e0 ⊢
        go_simp
      | 15, _, ho =>
        obtain rfl := Option.some.inj ho
        have e0 : (fr _ idx5 vals).eval (.tmp 52) = .int .i64 0 := (hev 52 13 rfl).trans (hdep ⟨13, .data⟩ (by simp) rfl)
        refine value_ (w1 := w1) (v := .int .i64 0) (by rfl) rfl ?_ ⟨_, rfl, Below.refl _ _, rfl⟩
        generalize (fr _ idx5 vals).eval = E at e0 ⊢
        go_simp
    case done =>
      intro vals w1 hb hP
      have h14 := hP 14 (by decide)
      have h15 : vals 15 = .int .i64 0 := hP 15 (by decide)
      have hR : Hid (Kd.R kR 31 w1 w.heap.size (fun _ => True) (vals 14) [nS false [49] [51], numV 5]) := Lib.hid h14
      have HBD := Lib.hid hb
      clear hP h14 hb
      simp [fr, mapI, idx5]
      rw [h15]
      go_wp2_with fail
      go_meet
      exact ⟨rfl, hR, HBD⟩
  case rest =>
  obtain ⟨rfl, R5, HW⟩ := hcut
  obtain ⟨X6, rfl⟩ : ∃ X, X = wc := ⟨wc, rfl⟩
  have G6 := Lib.hid (G5.out.below HW.out)
  have K6 := Lib.hid (K5.out.below HW.out)
  have C6 := Lib.hid (below_step C5.out HW.out)
  have TX6 := Lib.hid (TX5.out.below HW.out)
  have R3 := Lib.hid (Kd.R_below R3.out HW.out)
  have R4 := Lib.hid (Kd.R_below R4.out HW.out)
  clear HW G5 K5 C5 TX5
  skip
  go_upto_region 6 with fail
  go_cut [9, 10] (fun sa sb wx => sb = .int .i64 12 ∧ Hid (Kd.R kR 31 wx w.heap.size (fun _ => True) sa []) ∧ Hid (Below X6.heap.size X6 wx))
  case first =>
    go_wp2_with (first
      | (go_at_call 17; with_reducible refine (NUM.out _ ?sk _ (TX6.out.below ?sb)).mono ?_; (case sk => decide); (case sb => (first | exact (Below.refl _ X6) | exact (below_alloc (Below.refl _ X6) _) | exact (below_alloc (Below.refl _ X6) _).drew | exact (below_alloc (below_alloc (Below.refl _ X6) _) _) | exact (below_alloc (below_alloc (Below.refl _ X6) _) _).drew | exact (below_alloc (below_alloc (below_alloc (Below.refl _ X6) _) _) _) | exact (below_alloc (below_alloc (below_alloc (Below.refl _ X6) _) _) _).drew | exact (below_alloc (below_alloc (below_alloc (below_alloc (Below.refl _ X6) _) _) _) _) | exact (below_alloc (below_alloc (below_alloc (below_alloc (Below.refl _ X6) _) _) _) _).drew | exact (Below.refl _ X6).drew | exact (below_alloc (Below.refl _ X6).drew _) | exact (below_alloc (below_alloc (Below.refl _ X6).drew _) _) | exact (below_alloc (below_alloc (below_alloc (Below.refl _ X6).drew _) _) _) | exact (below_alloc (below_alloc (below_alloc (below_alloc (Below.refl _ X6).drew _) _) _) _))); rintro e w1 ⟨rfl, hb1⟩; have hb1 := Lib.hid hb1; have B1 := Lib.hid (below_step (by first | exact (Below.refl _ X6) | exact (below_alloc (Below.refl _ X6) _) | exact (below_alloc (Below.refl _ X6) _).drew | exact (below_alloc (below_alloc (Below.refl _ X6) _) _) | exact (below_alloc (below_alloc (Below.refl _ X6) _) _).drew | exact (below_alloc (below_alloc (below_alloc (Below.refl _ X6) _) _) _) | exact (below_alloc (below_alloc (below_alloc (Below.refl _ X6) _) _) _).drew | exact (below_alloc (below_alloc (below_alloc (below_alloc (Below.refl _ X6) _) _) _) _) | exact (below_alloc (below_alloc (below_alloc (below_alloc (Below.refl _ X6) _) _) _) _).drew | exact (Below.refl _ X6).drew | exact (below_alloc (Below.refl _ X6).drew _) | exact (below_alloc (below_alloc (Below.refl _ X6).drew _) _) | exact (below_alloc (below_alloc (below_alloc (Below.refl _ X6).drew _) _) _) | exact (below_alloc (below_alloc (below_alloc (below_alloc (Below.refl _ X6).drew _) _) _) _)) hb1.out))
      | (go_at_call 17; with_reducible refine (NUM.out _ ?sk _ (TX6.out.below ?sb)).mono ?_; (case sk => decide); (case sb => (first | exact B1.out | exact (below_alloc B1.out _) | exact (below_alloc (below_alloc B1.out _) _) | exact (below_alloc (below_alloc (below_alloc B1.out _) _) _) | exact (below_alloc (below_alloc (below_alloc (below_alloc B1.out _) _) _) _))); rintro e w2 ⟨rfl, hb2⟩; have hb2 := Lib.hid hb2; have B2 := Lib.hid (below_step (by first | exact B1.out | exact (below_alloc B1.out _) | exact (below_alloc (below_alloc B1.out _) _) | exact (below_alloc (below_alloc (below_alloc B1.out _) _) _) | exact (below_alloc (below_alloc (below_alloc (below_alloc B1.out _) _) _) _)) hb2.out))
      | (go_at_call 17; with_reducible refine (NUM.out _ ?sk _ (TX6.out.below ?sb)).mono ?_; (case sk => decide); (case sb => (first | exact B2.out | exact (below_alloc B2.out _) | exact (below_alloc (below_alloc B2.out _) _) | exact (below_alloc (below_alloc (below_alloc B2.out _) _) _) | exact (below_alloc (below_alloc (below_alloc (below_alloc B2.out _) _) _) _))); rintro e w3 ⟨rfl, hb3⟩; have hb3 := Lib.hid hb3; have B3 := Lib.hid (below_step (by first | exact B2.out | exact (below_alloc B2.out _) | exact (below_alloc (below_alloc B2.out _) _) | exact (below_alloc (below_alloc (below_alloc B2.out _) _) _) | exact (below_alloc (below_alloc (below_alloc (below_alloc B2.out _) _) _) _)) hb3.out))
      | (go_at_call 17; with_reducible refine (NUM.out _ ?sk _ (TX6.out.below ?sb)).mono ?_; (case sk => decide); (case sb => (first | exact B3.out | exact (below_alloc B3.out _) | exact (below_alloc (below_alloc B3.out _) _) | exact (below_alloc (below_alloc (below_alloc B3.out _) _) _) | exact (below_alloc (below_alloc (below_alloc (below_alloc B3.out _) _) _) _))); rintro e w4 ⟨rfl, hb4⟩; have hb4 := Lib.hid hb4; have B4 := Lib.hid (below_step (by first | exact B3.out | exact (below_alloc B3.out _) | exact (below_alloc (below_alloc B3.out _) _) | exact (below_alloc (below_alloc (below_alloc B3.out _) _) _) | exact (below_alloc (below_alloc (below_alloc (below_alloc B3.out _) _) _) _)) hb4.out))
      | (go_at_call 17; with_reducible refine (NUM.out _ ?sk _ (TX6.out.below ?sb)).mono ?_; (case sk => decide); (case sb => (first | exact B4.out | exact (below_alloc B4.out _) | exact (below_alloc (below_alloc B4.out _) _) | exact (below_alloc (below_alloc (below_alloc B4.out _) _) _) | exact (below_alloc (below_alloc (below_alloc (below_alloc B4.out _) _) _) _))); rintro e w5 ⟨rfl, hb5⟩; have hb5 := Lib.hid hb5; have B5 := Lib.hid (below_step (by first | exact B4.out | exact (below_alloc B4.out _) | exact (below_alloc (below_alloc B4.out _) _) | exact (below_alloc (below_alloc (below_alloc B4.out _) _) _) | exact (below_alloc (below_alloc (below_alloc (below_alloc B4.out _) _) _) _)) hb5.out))
      | (go_at_call 17; with_reducible refine (NUM.out _ ?sk _ (TX6.out.below ?sb)).mono ?_; (case sk => decide); (case sb => (first | exact B5.out | exact (below_alloc B5.out _) | exact (below_alloc (below_alloc B5.out _) _) | exact (below_alloc (below_alloc (below_alloc B5.out _) _) _) | exact (below_alloc (below_alloc (below_alloc (below_alloc B5.out _) _) _) _))); rintro e w6 ⟨rfl, hb6⟩; have hb6 := Lib.hid hb6; have B6 := Lib.hid (below_step (by first | exact B5.out | exact (below_alloc B5.out _) | exact (below_alloc (below_alloc B5.out _) _) | exact (below_alloc (below_alloc (below_alloc B5.out _) _) _) | exact (below_alloc (below_alloc (below_alloc (below_alloc B5.out _) _) _) _)) hb6.out))
      | (go_at_call 12; with_reducible refine (solve_at 2 _ _ [[(numV 1), (numV 1)], [(numV 2), (numV 2)]] [(numV 3), (numV 6)] [] 12 _ (TX6.out.below ?sb) ?s0 ?s1 ?sf).mono ?_; (case sf => kernel_rfl); (case sb => (first | exact B6.out | exact (below_alloc B6.out _) | exact (below_alloc (below_alloc B6.out _) _) | exact (below_alloc (below_alloc (below_alloc B6.out _) _) _) | exact (below_alloc (below_alloc (below_alloc (below_alloc B6.out _) _) _) _))); (case s0 => (apply sysAt; ((try (first | exact bk_newC rfl | exact bk_newC (by simp; done) | refine bk_below hb6.out ?_ | refine bk_below hb5.out ?_ | refine bk_below hb4.out ?_ | refine bk_below hb3.out ?_ | refine bk_below hb2.out ?_ | refine bk_below hb1.out ?_ | refine bk_alloc ?_ | refine bk_drew ?_)); (try (first | exact bk_newC rfl | exact bk_newC (by simp; done) | refine bk_below hb6.out ?_ | refine bk_below hb5.out ?_ | refine bk_below hb4.out ?_ | refine bk_below hb3.out ?_ | refine bk_below hb2.out ?_ | refine bk_below hb1.out ?_ | refine bk_alloc ?_ | refine bk_drew ?_)); (try (first | exact bk_newC rfl | exact bk_newC (by simp; done) | refine bk_below hb6.out ?_ | refine bk_below hb5.out ?_ | refine bk_below hb4.out ?_ | refine bk_below hb3.out ?_ | refine bk_below hb2.out ?_ | refine bk_below hb1.out ?_ | refine bk_alloc ?_ | refine bk_drew ?_)); (try (first | exact bk_newC rfl | exact bk_newC (by simp; done) | refine bk_below hb6.out ?_ | refine bk_below hb5.out ?_ | refine bk_below hb4.out ?_ | refine bk_below hb3.out ?_ | refine bk_below hb2.out ?_ | refine bk_below hb1.out ?_ | refine bk_alloc ?_ | refine bk_drew ?_)); (try (first | exact bk_newC rfl | exact bk_newC (by simp; done) | refine bk_below hb6.out ?_ | refine bk_below hb5.out ?_ | refine bk_below hb4.out ?_ | refine bk_below hb3.out ?_ | refine bk_below hb2.out ?_ | refine bk_below hb1.out ?_ | refine bk_alloc ?_ | refine bk_drew ?_)); (try (first | exact bk_newC rfl | exact bk_newC (by simp; done) | refine bk_below hb6.out ?_ | refine bk_below hb5.out ?_ | refine bk_below hb4.out ?_ | refine bk_below hb3.out ?_ | refine bk_below hb2.out ?_ | refine bk_below hb1.out ?_ | refine bk_alloc ?_ | refine bk_drew ?_)); (try (first | exact bk_newC rfl | exact bk_newC (by simp; done) | refine bk_below hb6.out ?_ | refine bk_below hb5.out ?_ | refine bk_below hb4.out ?_ | refine bk_below hb3.out ?_ | refine bk_below hb2.out ?_ | refine bk_below hb1.out ?_ | refine bk_alloc ?_ | refine bk_drew ?_)); (try (first | exact bk_newC rfl | exact bk_newC (by simp; done) | refine bk_below hb6.out ?_ | refine bk_below hb5.out ?_ | refine bk_below hb4.out ?_ | refine bk_below hb3.out ?_ | refine bk_below hb2.out ?_ | refine bk_below hb1.out ?_ | refine bk_alloc ?_ | refine bk_drew ?_)); (try (first | exact bk_newC rfl | exact bk_newC (by simp; done) | refine bk_below hb6.out ?_ | refine bk_below hb5.out ?_ | refine bk_below hb4.out ?_ | refine bk_below hb3.out ?_ | refine bk_below hb2.out ?_ | refine bk_below hb1.out ?_ | refine bk_alloc ?_ | refine bk_drew ?_)); (try (first | exact bk_newC rfl | exact bk_newC (by simp; done) | refine bk_below hb6.out ?_ | refine bk_below hb5.out ?_ | refine bk_below hb4.out ?_ | refine bk_below hb3.out ?_ | refine bk_below hb2.out ?_ | refine bk_below hb1.out ?_ | refine bk_alloc ?_ | refine bk_drew ?_)); (try (first | exact bk_newC rfl | exact bk_newC (by simp; done) | refine bk_below hb6.out ?_ | refine bk_below hb5.out ?_ | refine bk_below hb4.out ?_ | refine bk_below hb3.out ?_ | refine bk_below hb2.out ?_ | refine bk_below hb1.out ?_ | refine bk_alloc ?_ | refine bk_drew ?_))); ((try (first | exact bk_newC rfl | exact bk_newC (by simp; done) | refine bk_below hb6.out ?_ | refine bk_below hb5.out ?_ | refine bk_below hb4.out ?_ | refine bk_below hb3.out ?_ | refine bk_below hb2.out ?_ | refine bk_below hb1.out ?_ | refine bk_alloc ?_ | refine bk_drew ?_)); (try (first | exact bk_newC rfl | exact bk_newC (by simp; done) | refine bk_below hb6.out ?_ | refine bk_below hb5.out ?_ | refine bk_below hb4.out ?_ | refine bk_below hb3.out ?_ | refine bk_below hb2.out ?_ | refine bk_below hb1.out ?_ | refine bk_alloc ?_ | refine bk_drew ?_)); (try (first | exact bk_newC rfl | exact bk_newC (by simp; done) | refine bk_below hb6.out ?_ | refine bk_below hb5.out ?_ | refine bk_below hb4.out ?_ | refine bk_below hb3.out ?_ | refine bk_below hb2.out ?_ | refine bk_below hb1.out ?_ | refine bk_alloc ?_ | refine bk_drew ?_)); (try (first | exact bk_newC rfl | exact bk_newC (by simp; done) | refine bk_below hb6.out ?_ | refine bk_below hb5.out ?_ | refine bk_below hb4.out ?_ | refine bk_below hb3.out ?_ | refine bk_below hb2.out ?_ | refine bk_below hb1.out ?_ | refine bk_alloc ?_ | refine bk_drew ?_)); (try (first | exact bk_newC rfl | exact bk_newC (by simp; done) | refine bk_below hb6.out ?_ | refine bk_below hb5.out ?_ | refine bk_below hb4.out ?_ | refine bk_below hb3.out ?_ | refine bk_below hb2.out ?_ | refine bk_below hb1.out ?_ | refine bk_alloc ?_ | refine bk_drew ?_)); (try (first | exact bk_newC rfl | exact bk_newC (by simp; done) | refine bk_below hb6.out ?_ | refine bk_below hb5.out ?_ | refine bk_below hb4.out ?_ | refine bk_below hb3.out ?_ | refine bk_below hb2.out ?_ | refine bk_below hb1.out ?_ | refine bk_alloc ?_ | refine bk_drew ?_)); (try (first | exact bk_newC rfl | exact bk_newC (by simp; done) | refine bk_below hb6.out ?_ | refine bk_below hb5.out ?_ | refine bk_below hb4.out ?_ | refine bk_below hb3.out ?_ | refine bk_below hb2.out ?_ | refine bk_below hb1.out ?_ | refine bk_alloc ?_ | refine bk_drew ?_)); (try (first | exact bk_newC rfl | exact bk_newC (by simp; done) | refine bk_below hb6.out ?_ | refine bk_below hb5.out ?_ | refine bk_below hb4.out ?_ | refine bk_below hb3.out ?_ | refine bk_below hb2.out ?_ | refine bk_below hb1.out ?_ | refine bk_alloc ?_ | refine bk_drew ?_)); (try (first | exact bk_newC rfl | exact bk_newC (by simp; done) | refine bk_below hb6.out ?_ | refine bk_below hb5.out ?_ | refine bk_below hb4.out ?_ | refine bk_below hb3.out ?_ | refine bk_below hb2.out ?_ | refine bk_below hb1.out ?_ | refine bk_alloc ?_ | refine bk_drew ?_)); (try (first | exact bk_newC rfl | exact bk_newC (by simp; done) | refine bk_below hb6.out ?_ | refine bk_below hb5.out ?_ | refine bk_below hb4.out ?_ | refine bk_below hb3.out ?_ | refine bk_below hb2.out ?_ | refine bk_below hb1.out ?_ | refine bk_alloc ?_ | refine bk_drew ?_)); (try (first | exact bk_newC rfl | exact bk_newC (by simp; done) | refine bk_below hb6.out ?_ | refine bk_below hb5.out ?_ | refine bk_below hb4.out ?_ | refine bk_below hb3.out ?_ | refine bk_below hb2.out ?_ | refine bk_below hb1.out ?_ | refine bk_alloc ?_ | refine bk_drew ?_))); ((try (first | exact bk_newC rfl | exact bk_newC (by simp; done) | refine bk_below hb6.out ?_ | refine bk_below hb5.out ?_ | refine bk_below hb4.out ?_ | refine bk_below hb3.out ?_ | refine bk_below hb2.out ?_ | refine bk_below hb1.out ?_ | refine bk_alloc ?_ | refine bk_drew ?_)); (try (first | exact bk_newC rfl | exact bk_newC (by simp; done) | refine bk_below hb6.out ?_ | refine bk_below hb5.out ?_ | refine bk_below hb4.out ?_ | refine bk_below hb3.out ?_ | refine bk_below hb2.out ?_ | refine bk_below hb1.out ?_ | refine bk_alloc ?_ | refine bk_drew ?_)); (try (first | exact bk_newC rfl | exact bk_newC (by simp; done) | refine bk_below hb6.out ?_ | refine bk_below hb5.out ?_ | refine bk_below hb4.out ?_ | refine bk_below hb3.out ?_ | refine bk_below hb2.out ?_ | refine bk_below hb1.out ?_ | refine bk_alloc ?_ | refine bk_drew ?_)); (try (first | exact bk_newC rfl | exact bk_newC (by simp; done) | refine bk_below hb6.out ?_ | refine bk_below hb5.out ?_ | refine bk_below hb4.out ?_ | refine bk_below hb3.out ?_ | refine bk_below hb2.out ?_ | refine bk_below hb1.out ?_ | refine bk_alloc ?_ | refine bk_drew ?_)); (try (first | exact bk_newC rfl | exact bk_newC (by simp; done) | refine bk_below hb6.out ?_ | refine bk_below hb5.out ?_ | refine bk_below hb4.out ?_ | refine bk_below hb3.out ?_ | refine bk_below hb2.out ?_ | refine bk_below hb1.out ?_ | refine bk_alloc ?_ | refine bk_drew ?_)); (try (first | exact bk_newC rfl | exact bk_newC (by simp; done) | refine bk_below hb6.out ?_ | refine bk_below hb5.out ?_ | refine bk_below hb4.out ?_ | refine bk_below hb3.out ?_ | refine bk_below hb2.out ?_ | refine bk_below hb1.out ?_ | refine bk_alloc ?_ | refine bk_drew ?_)); (try (first | exact bk_newC rfl | exact bk_newC (by simp; done) | refine bk_below hb6.out ?_ | refine bk_below hb5.out ?_ | refine bk_below hb4.out ?_ | refine bk_below hb3.out ?_ | refine bk_below hb2.out ?_ | refine bk_below hb1.out ?_ | refine bk_alloc ?_ | refine bk_drew ?_)); (try (first | exact bk_newC rfl | exact bk_newC (by simp; done) | refine bk_below hb6.out ?_ | refine bk_below hb5.out ?_ | refine bk_below hb4.out ?_ | refine bk_below hb3.out ?_ | refine bk_below hb2.out ?_ | refine bk_below hb1.out ?_ | refine bk_alloc ?_ | refine bk_drew ?_)); (try (first | exact bk_newC rfl | exact bk_newC (by simp; done) | refine bk_below hb6.out ?_ | refine bk_below hb5.out ?_ | refine bk_below hb4.out ?_ | refine bk_below hb3.out ?_ | refine bk_below hb2.out ?_ | refine bk_below hb1.out ?_ | refine bk_alloc ?_ | refine bk_drew ?_)); (try (first | exact bk_newC rfl | exact bk_newC (by simp; done) | refine bk_below hb6.out ?_ | refine bk_below hb5.out ?_ | refine bk_below hb4.out ?_ | refine bk_below hb3.out ?_ | refine bk_below hb2.out ?_ | refine bk_below hb1.out ?_ | refine bk_alloc ?_ | refine bk_drew ?_)); (try (first | exact bk_newC rfl | exact bk_newC (by simp; done) | refine bk_below hb6.out ?_ | refine bk_below hb5.out ?_ | refine bk_below hb4.out ?_ | refine bk_below hb3.out ?_ | refine bk_below hb2.out ?_ | refine bk_below hb1.out ?_ | refine bk_alloc ?_ | refine bk_drew ?_))))); (case s1 => (apply rhsAt; ((try (first | exact bk_newC rfl | exact bk_newC (by simp; done) | refine bk_below hb6.out ?_ | refine bk_below hb5.out ?_ | refine bk_below hb4.out ?_ | refine bk_below hb3.out ?_ | refine bk_below hb2.out ?_ | refine bk_below hb1.out ?_ | refine bk_alloc ?_ | refine bk_drew ?_)); (try (first | exact bk_newC rfl | exact bk_newC (by simp; done) | refine bk_below hb6.out ?_ | refine bk_below hb5.out ?_ | refine bk_below hb4.out ?_ | refine bk_below hb3.out ?_ | refine bk_below hb2.out ?_ | refine bk_below hb1.out ?_ | refine bk_alloc ?_ | refine bk_drew ?_)); (try (first | exact bk_newC rfl | exact bk_newC (by simp; done) | refine bk_below hb6.out ?_ | refine bk_below hb5.out ?_ | refine bk_below hb4.out ?_ | refine bk_below hb3.out ?_ | refine bk_below hb2.out ?_ | refine bk_below hb1.out ?_ | refine bk_alloc ?_ | refine bk_drew ?_)); (try (first | exact bk_newC rfl | exact bk_newC (by simp; done) | refine bk_below hb6.out ?_ | refine bk_below hb5.out ?_ | refine bk_below hb4.out ?_ | refine bk_below hb3.out ?_ | refine bk_below hb2.out ?_ | refine bk_below hb1.out ?_ | refine bk_alloc ?_ | refine bk_drew ?_)); (try (first | exact bk_newC rfl | exact bk_newC (by simp; done) | refine bk_below hb6.out ?_ | refine bk_below hb5.out ?_ | refine bk_below hb4.out ?_ | refine bk_below hb3.out ?_ | refine bk_below hb2.out ?_ | refine bk_below hb1.out ?_ | refine bk_alloc ?_ | refine bk_drew ?_)); (try (first | exact bk_newC rfl | exact bk_newC (by simp; done) | refine bk_below hb6.out ?_ | refine bk_below hb5.out ?_ | refine bk_below hb4.out ?_ | refine bk_below hb3.out ?_ | refine bk_below hb2.out ?_ | refine bk_below hb1.out ?_ | refine bk_alloc ?_ | refine bk_drew ?_)); (try (first | exact bk_newC rfl | exact bk_newC (by simp; done) | refine bk_below hb6.out ?_ | refine bk_below hb5.out ?_ | refine bk_below hb4.out ?_ | refine bk_below hb3.out ?_ | refine bk_below hb2.out ?_ | refine bk_below hb1.out ?_ | refine bk_alloc ?_ | refine bk_drew ?_)); (try (first | exact bk_newC rfl | exact bk_newC (by simp; done) | refine bk_below hb6.out ?_ | refine bk_below hb5.out ?_ | refine bk_below hb4.out ?_ | refine bk_below hb3.out ?_ | refine bk_below hb2.out ?_ | refine bk_below hb1.out ?_ | refine bk_alloc ?_ | refine bk_drew ?_)); (try (first | exact bk_newC rfl | exact bk_newC (by simp; done) | refine bk_below hb6.out ?_ | refine bk_below hb5.out ?_ | refine bk_below hb4.out ?_ | refine bk_below hb3.out ?_ | refine bk_below hb2.out ?_ | refine bk_below hb1.out ?_ | refine bk_alloc ?_ | refine bk_drew ?_)); (try (first | exact bk_newC rfl | exact bk_newC (by simp; done) | refine bk_below hb6.out ?_ | refine bk_below hb5.out ?_ | refine bk_below hb4.out ?_ | refine bk_below hb3.out ?_ | refine bk_below hb2.out ?_ | refine bk_below hb1.out ?_ | refine bk_alloc ?_ | refine bk_drew ?_)); (try (first | exact bk_newC rfl | exact bk_newC (by simp; done) | refine bk_below hb6.out ?_ | refine bk_below hb5.out ?_ | refine bk_below hb4.out ?_ | refine bk_below hb3.out ?_ | refine bk_below hb2.out ?_ | refine bk_below hb1.out ?_ | refine bk_alloc ?_ | refine bk_drew ?_))))); rintro e wS ⟨vS, rfl, hR, hbS⟩; have HR := Lib.hid hR; have HBS := Lib.hid (below_step (by first | exact B6.out | exact (below_alloc B6.out _) | exact (below_alloc (below_alloc B6.out _) _) | exact (below_alloc (below_alloc (below_alloc B6.out _) _) _) | exact (below_alloc (below_alloc (below_alloc (below_alloc B6.out _) _) _) _)) hbS); clear hR hbS))
    go_meet
    exact ⟨rfl, Lib.hid (Kd.R_lower HR.out (Nat.le_trans C6.out.size (below_size (by first | exact B6.out | exact (below_alloc B6.out _) | exact (below_alloc (below_alloc B6.out _) _) | exact (below_alloc (below_alloc (below_alloc B6.out _) _) _) | exact (below_alloc (below_alloc (below_alloc (below_alloc B6.out _) _) _) _))))), HBS⟩
  case rest =>
  obtain ⟨rfl, R6, HW⟩ := hcut
  obtain ⟨X7, rfl⟩ : ∃ X, X = wc := ⟨wc, rfl⟩
  have G7 := Lib.hid (G6.out.below HW.out)
  have K7 := Lib.hid (K6.out.below HW.out)
  have C7 := Lib.hid (below_step C6.out HW.out)
  have TX7 := Lib.hid (TX6.out.below HW.out)
  have R3 := Lib.hid (Kd.R_below R3.out HW.out)
  have R4 := Lib.hid (Kd.R_below R4.out HW.out)
  have R5 := Lib.hid (Kd.R_below R5.out HW.out)
  clear HW G6 K6 C6 TX6
  skip
  go_upto_region 7 with fail
  go_cut [11, 12] (fun sa sb wx => sb = .int .i64 0 ∧ Hid (Kd.R kR 31 wx w.heap.size (fun _ => True) sa []) ∧ Hid (Below X7.heap.size X7 wx))
  case first =>
    go_wp2_with (first
      | (go_at_call 12; with_reducible refine (solve_at 0 _ _ [] [] [] 0 _ (TX7.out.below ?sb) ?s0 ?s1 ?sf).mono ?_; (case sf => kernel_rfl); (case sb => (first | exact (Below.refl _ X7) | exact (below_alloc (Below.refl _ X7) _) | exact (below_alloc (Below.refl _ X7) _).drew | exact (below_alloc (below_alloc (Below.refl _ X7) _) _) | exact (below_alloc (below_alloc (Below.refl _ X7) _) _).drew | exact (below_alloc (below_alloc (below_alloc (Below.refl _ X7) _) _) _) | exact (below_alloc (below_alloc (below_alloc (Below.refl _ X7) _) _) _).drew | exact (below_alloc (below_alloc (below_alloc (below_alloc (Below.refl _ X7) _) _) _) _) | exact (below_alloc (below_alloc (below_alloc (below_alloc (Below.refl _ X7) _) _) _) _).drew | exact (Below.refl _ X7).drew | exact (below_alloc (Below.refl _ X7).drew _) | exact (below_alloc (below_alloc (Below.refl _ X7).drew _) _) | exact (below_alloc (below_alloc (below_alloc (Below.refl _ X7).drew _) _) _) | exact (below_alloc (below_alloc (below_alloc (below_alloc (Below.refl _ X7).drew _) _) _) _))); (case s0 => (exact nilC2)); (case s1 => (exact nilC)); rintro e wS ⟨vS, rfl, hR, hbS⟩; have HR := Lib.hid hR; have HBS := Lib.hid (below_step (by first | exact (Below.refl _ X7) | exact (below_alloc (Below.refl _ X7) _) | exact (below_alloc (Below.refl _ X7) _).drew | exact (below_alloc (below_alloc (Below.refl _ X7) _) _) | exact (below_alloc (below_alloc (Below.refl _ X7) _) _).drew | exact (below_alloc (below_alloc (below_alloc (Below.refl _ X7) _) _) _) | exact (below_alloc (below_alloc (below_alloc (Below.refl _ X7) _) _) _).drew | exact (below_alloc (below_alloc (below_alloc (below_alloc (Below.refl _ X7) _) _) _) _) | exact (below_alloc (below_alloc (below_alloc (below_alloc (Below.refl _ X7) _) _) _) _).drew | exact (Below.refl _ X7).drew | exact (below_alloc (Below.refl _ X7).drew _) | exact (below_alloc (below_alloc (Below.refl _ X7).drew _) _) | exact (below_alloc (below_alloc (below_alloc (Below.refl _ X7).drew _) _) _) | exact (below_alloc (below_alloc (below_alloc (below_alloc (Below.refl _ X7).drew _) _) _) _)) hbS); clear hR hbS))
    go_meet
    exact ⟨rfl, Lib.hid (Kd.R_lower HR.out (Nat.le_trans C7.out.size (below_size (by first | exact (Below.refl _ X7) | exact (below_alloc (Below.refl _ X7) _) | exact (below_alloc (Below.refl _ X7) _).drew | exact (below_alloc (below_alloc (Below.refl _ X7) _) _) | exact (below_alloc (below_alloc (Below.refl _ X7) _) _).drew | exact (below_alloc (below_alloc (below_alloc (Below.refl _ X7) _) _) _) | exact (below_alloc (below_alloc (below_alloc (Below.refl _ X7) _) _) _).drew | exact (below_alloc (below_alloc (below_alloc (below_alloc (Below.refl _ X7) _) _) _) _) | exact (below_alloc (below_alloc (below_alloc (below_alloc (Below.refl _ X7) _) _) _) _).drew | exact (Below.refl _ X7).drew | exact (below_alloc (Below.refl _ X7).drew _) | exact (below_alloc (below_alloc (Below.refl _ X7).drew _) _) | exact (below_alloc (below_alloc (below_alloc (Below.refl _ X7).drew _) _) _) | exact (below_alloc (below_alloc (below_alloc (below_alloc (Below.refl _ X7).drew _) _) _) _))))), HBS⟩
  case rest =>
  obtain ⟨rfl, R7, HW⟩ := hcut
  obtain ⟨X8, rfl⟩ : ∃ X, X = wc := ⟨wc, rfl⟩
  have G8 := Lib.hid (G7.out.below HW.out)
  have K8 := Lib.hid (K7.out.below HW.out)
  have C8 := Lib.hid (below_step C7.out HW.out)
  have TX8 := Lib.hid (TX7.out.below HW.out)
  have R3 := Lib.hid (Kd.R_below R3.out HW.out)
  have R4 := Lib.hid (Kd.R_below R4.out HW.out)
  have R5 := Lib.hid (Kd.R_below R5.out HW.out)
  have R6 := Lib.hid (Kd.R_below R6.out HW.out)
  clear HW G7 K7 C7 TX7
  skip
  go_upto_region 8 with fail
  obtain ⟨A3, k3, e3, hl3, hc3⟩ := Kd.R_reads R3.out
  replace e3 : u3 = .slice A3 1 k3 := e3
  have D3 : Hid (Kd.C kR X8 A3 1 _) := Lib.hid hc3
  have L3 : Hid (1 ≤ k3) := Lib.hid hl3
  subst e3
  clear hl3 hc3
  obtain ⟨A5, k5, e5, hl5, hc5⟩ := Kd.R_reads R4.out
  replace e5 : u5 = .slice A5 2 k5 := e5
  have D5 : Hid (Kd.C kR X8 A5 2 _) := Lib.hid hc5
  have L5 : Hid (2 ≤ k5) := Lib.hid hl5
  subst e5
  clear hl5 hc5
  obtain ⟨A7, k7, e7, hl7, hc7⟩ := Kd.R_reads R5.out
  replace e7 : u7 = .slice A7 2 k7 := e7
  have D7 : Hid (Kd.C kR X8 A7 2 _) := Lib.hid hc7
  have L7 : Hid (2 ≤ k7) := Lib.hid hl7
  subst e7
  clear hl7 hc7
  obtain ⟨A9, k9, e9, hl9, hc9⟩ := Kd.R_reads R6.out
  replace e9 : u9 = .slice A9 0 k9 := e9
  subst e9
  clear hl9 hc9
  obtain ⟨A11, k11, e11, hl11, hc11⟩ := Kd.R_reads R7.out
  replace e11 : u11 = .slice A11 0 k11 := e11
  subst e11
  clear hl11 hc11
  clear R3 R4 R5 R6 R7
  have HSS : Hid (∀ W, Below X8.heap.size X8 W → ((W.cell? ⟨w.heap.size, 0, none⟩ = some (.bool false) ∧ W.cell? ⟨w.heap.size, 1, none⟩ = some (.string ⟨#[49]⟩) ∧ W.cell? ⟨w.heap.size, 2, none⟩ = some (.string ⟨#[50]⟩)) ∧ (W.cell? ⟨w.heap.size + 1, 0, none⟩ = some (.bool false) ∧ W.cell? ⟨w.heap.size + 1, 1, none⟩ = some (.string ⟨#[49]⟩) ∧ W.cell? ⟨w.heap.size + 1, 2, none⟩ = some (.string ⟨#[51]⟩)))) := Lib.hid fun W hW => by
    obtain ⟨e0, e1, e2, _⟩ := box3 (K8.out.below hW)
    obtain ⟨f0, f1, f2, _⟩ := box3 (G8.out.below hW)
    exact ⟨⟨f0, f1, f2⟩, ⟨e0, e1, e2⟩⟩
  clear G8 K8
  go_cut [13] (fun s13 wx => s13 = .bool true ∧ Hid (Below X8.heap.size X8 wx))
  case first =>
    go_region_held3 (fun W => (W.cell? ⟨w.heap.size, 0, none⟩ = some (.bool false) ∧ W.cell? ⟨w.heap.size, 1, none⟩ = some (.string ⟨#[49]⟩) ∧ W.cell? ⟨w.heap.size, 2, none⟩ = some (.string ⟨#[50]⟩)) ∧ (W.cell? ⟨w.heap.size + 1, 0, none⟩ = some (.bool false) ∧ W.cell? ⟨w.heap.size + 1, 1, none⟩ = some (.string ⟨#[49]⟩) ∧ W.cell? ⟨w.heap.size + 1, 2, none⟩ = some (.string ⟨#[51]⟩)))
      (first
        | exact HSS.out _ (by first | exact B6.out | exact (below_alloc B6.out _) | exact (below_alloc (below_alloc B6.out _) _) | exact (below_alloc (below_alloc (below_alloc B6.out _) _) _) | exact (below_alloc (below_alloc (below_alloc (below_alloc B6.out _) _) _) _))
        | exact HSS.out _ (by first | exact B5.out | exact (below_alloc B5.out _) | exact (below_alloc (below_alloc B5.out _) _) | exact (below_alloc (below_alloc (below_alloc B5.out _) _) _) | exact (below_alloc (below_alloc (below_alloc (below_alloc B5.out _) _) _) _))
        | exact HSS.out _ (by first | exact B4.out | exact (below_alloc B4.out _) | exact (below_alloc (below_alloc B4.out _) _) | exact (below_alloc (below_alloc (below_alloc B4.out _) _) _) | exact (below_alloc (below_alloc (below_alloc (below_alloc B4.out _) _) _) _))
        | exact HSS.out _ (by first | exact B3.out | exact (below_alloc B3.out _) | exact (below_alloc (below_alloc B3.out _) _) | exact (below_alloc (below_alloc (below_alloc B3.out _) _) _) | exact (below_alloc (below_alloc (below_alloc (below_alloc B3.out _) _) _) _))
        | exact HSS.out _ (by first | exact B2.out | exact (below_alloc B2.out _) | exact (below_alloc (below_alloc B2.out _) _) | exact (below_alloc (below_alloc (below_alloc B2.out _) _) _) | exact (below_alloc (below_alloc (below_alloc (below_alloc B2.out _) _) _) _))
        | exact HSS.out _ (by first | exact B1.out | exact (below_alloc B1.out _) | exact (below_alloc (below_alloc B1.out _) _) | exact (below_alloc (below_alloc (below_alloc B1.out _) _) _) | exact (below_alloc (below_alloc (below_alloc (below_alloc B1.out _) _) _) _))
        | exact HSS.out _ (by first | exact (Below.refl _ X8) | exact (below_alloc (Below.refl _ X8) _) | exact (below_alloc (Below.refl _ X8) _).drew | exact (below_alloc (below_alloc (Below.refl _ X8) _) _) | exact (below_alloc (below_alloc (Below.refl _ X8) _) _).drew | exact (below_alloc (below_alloc (below_alloc (Below.refl _ X8) _) _) _) | exact (below_alloc (below_alloc (below_alloc (Below.refl _ X8) _) _) _).drew | exact (below_alloc (below_alloc (below_alloc (below_alloc (Below.refl _ X8) _) _) _) _) | exact (below_alloc (below_alloc (below_alloc (below_alloc (Below.refl _ X8) _) _) _) _).drew | exact (Below.refl _ X8).drew | exact (below_alloc (Below.refl _ X8).drew _) | exact (below_alloc (below_alloc (Below.refl _ X8).drew _) _) | exact (below_alloc (below_alloc (below_alloc (Below.refl _ X8).drew _) _) _) | exact (below_alloc (below_alloc (below_alloc (below_alloc (Below.refl _ X8).drew _) _) _) _))
        )
      (first
        | (go_at_call 14; with_reducible refine (same_at _ _ _ _ _ _ [(nS false [49] [50])] [(⟨false, ⟨#[49]⟩, ⟨#[50]⟩⟩ : SR)] () (Kd.C_below D3.out ?sb) L3.out ?s1 ?sf).mono ?_; (case sf => kernel_rfl); (case sb => (first | exact (Below.refl _ X8) | exact (below_alloc (Below.refl _ X8) _) | exact (below_alloc (Below.refl _ X8) _).drew | exact (below_alloc (below_alloc (Below.refl _ X8) _) _) | exact (below_alloc (below_alloc (Below.refl _ X8) _) _).drew | exact (below_alloc (below_alloc (below_alloc (Below.refl _ X8) _) _) _) | exact (below_alloc (below_alloc (below_alloc (Below.refl _ X8) _) _) _).drew | exact (below_alloc (below_alloc (below_alloc (below_alloc (Below.refl _ X8) _) _) _) _) | exact (below_alloc (below_alloc (below_alloc (below_alloc (Below.refl _ X8) _) _) _) _).drew | exact (Below.refl _ X8).drew | exact (below_alloc (Below.refl _ X8).drew _) | exact (below_alloc (below_alloc (Below.refl _ X8).drew _) _) | exact (below_alloc (below_alloc (below_alloc (Below.refl _ X8).drew _) _) _) | exact (below_alloc (below_alloc (below_alloc (below_alloc (Below.refl _ X8).drew _) _) _) _))); (case s1 => (apply rhsAtS1; ((try (first | exact bk_newC rfl | exact bk_newC (by simp; done) | refine bk_alloc ?_ | refine bk_drew ?_)); (try (first | exact bk_newC rfl | exact bk_newC (by simp; done) | refine bk_alloc ?_ | refine bk_drew ?_)); (try (first | exact bk_newC rfl | exact bk_newC (by simp; done) | refine bk_alloc ?_ | refine bk_drew ?_)); (try (first | exact bk_newC rfl | exact bk_newC (by simp; done) | refine bk_alloc ?_ | refine bk_drew ?_)); (try (first | exact bk_newC rfl | exact bk_newC (by simp; done) | refine bk_alloc ?_ | refine bk_drew ?_))))); rintro e w1 ⟨rfl, hb1⟩; have hb1 := Lib.hid hb1; have B1 := Lib.hid (below_step (by first | exact (Below.refl _ X8) | exact (below_alloc (Below.refl _ X8) _) | exact (below_alloc (Below.refl _ X8) _).drew | exact (below_alloc (below_alloc (Below.refl _ X8) _) _) | exact (below_alloc (below_alloc (Below.refl _ X8) _) _).drew | exact (below_alloc (below_alloc (below_alloc (Below.refl _ X8) _) _) _) | exact (below_alloc (below_alloc (below_alloc (Below.refl _ X8) _) _) _).drew | exact (below_alloc (below_alloc (below_alloc (below_alloc (Below.refl _ X8) _) _) _) _) | exact (below_alloc (below_alloc (below_alloc (below_alloc (Below.refl _ X8) _) _) _) _).drew | exact (Below.refl _ X8).drew | exact (below_alloc (Below.refl _ X8).drew _) | exact (below_alloc (below_alloc (Below.refl _ X8).drew _) _) | exact (below_alloc (below_alloc (below_alloc (Below.refl _ X8).drew _) _) _) | exact (below_alloc (below_alloc (below_alloc (below_alloc (Below.refl _ X8).drew _) _) _) _)) hb1.out))
        | (go_at_call 17; with_reducible refine (NUM.out _ ?sk _ (TX8.out.below ?sb)).mono ?_; (case sk => decide); (case sb => (first | exact B1.out | exact (below_alloc B1.out _) | exact (below_alloc (below_alloc B1.out _) _) | exact (below_alloc (below_alloc (below_alloc B1.out _) _) _) | exact (below_alloc (below_alloc (below_alloc (below_alloc B1.out _) _) _) _))); rintro e w2 ⟨rfl, hb2⟩; have hb2 := Lib.hid hb2; have B2 := Lib.hid (below_step (by first | exact B1.out | exact (below_alloc B1.out _) | exact (below_alloc (below_alloc B1.out _) _) | exact (below_alloc (below_alloc (below_alloc B1.out _) _) _) | exact (below_alloc (below_alloc (below_alloc (below_alloc B1.out _) _) _) _)) hb2.out))
        | (go_at_call 17; with_reducible refine (NUM.out _ ?sk _ (TX8.out.below ?sb)).mono ?_; (case sk => decide); (case sb => (first | exact B2.out | exact (below_alloc B2.out _) | exact (below_alloc (below_alloc B2.out _) _) | exact (below_alloc (below_alloc (below_alloc B2.out _) _) _) | exact (below_alloc (below_alloc (below_alloc (below_alloc B2.out _) _) _) _))); rintro e w3 ⟨rfl, hb3⟩; have hb3 := Lib.hid hb3; have B3 := Lib.hid (below_step (by first | exact B2.out | exact (below_alloc B2.out _) | exact (below_alloc (below_alloc B2.out _) _) | exact (below_alloc (below_alloc (below_alloc B2.out _) _) _) | exact (below_alloc (below_alloc (below_alloc (below_alloc B2.out _) _) _) _)) hb3.out))
        | (go_at_call 14; with_reducible refine (same_at _ _ _ _ _ _ [(numV 2), (numV 1)] [(numV 2), (numV 1)] () (Kd.C_below D5.out ?sb) L5.out ?s1 ?sf).mono ?_; (case sf => kernel_rfl); (case sb => (first | exact B3.out | exact (below_alloc B3.out _) | exact (below_alloc (below_alloc B3.out _) _) | exact (below_alloc (below_alloc (below_alloc B3.out _) _) _) | exact (below_alloc (below_alloc (below_alloc (below_alloc B3.out _) _) _) _))); (case s1 => (apply rhsAtS; ((try (first | exact bk_newC rfl | exact bk_newC (by simp; done) | refine bk_below hb3.out ?_ | refine bk_below hb2.out ?_ | refine bk_below hb1.out ?_ | refine bk_alloc ?_ | refine bk_drew ?_)); (try (first | exact bk_newC rfl | exact bk_newC (by simp; done) | refine bk_below hb3.out ?_ | refine bk_below hb2.out ?_ | refine bk_below hb1.out ?_ | refine bk_alloc ?_ | refine bk_drew ?_)); (try (first | exact bk_newC rfl | exact bk_newC (by simp; done) | refine bk_below hb3.out ?_ | refine bk_below hb2.out ?_ | refine bk_below hb1.out ?_ | refine bk_alloc ?_ | refine bk_drew ?_)); (try (first | exact bk_newC rfl | exact bk_newC (by simp; done) | refine bk_below hb3.out ?_ | refine bk_below hb2.out ?_ | refine bk_below hb1.out ?_ | refine bk_alloc ?_ | refine bk_drew ?_)); (try (first | exact bk_newC rfl | exact bk_newC (by simp; done) | refine bk_below hb3.out ?_ | refine bk_below hb2.out ?_ | refine bk_below hb1.out ?_ | refine bk_alloc ?_ | refine bk_drew ?_)); (try (first | exact bk_newC rfl | exact bk_newC (by simp; done) | refine bk_below hb3.out ?_ | refine bk_below hb2.out ?_ | refine bk_below hb1.out ?_ | refine bk_alloc ?_ | refine bk_drew ?_)); (try (first | exact bk_newC rfl | exact bk_newC (by simp; done) | refine bk_below hb3.out ?_ | refine bk_below hb2.out ?_ | refine bk_below hb1.out ?_ | refine bk_alloc ?_ | refine bk_drew ?_)); (try (first | exact bk_newC rfl | exact bk_newC (by simp; done) | refine bk_below hb3.out ?_ | refine bk_below hb2.out ?_ | refine bk_below hb1.out ?_ | refine bk_alloc ?_ | refine bk_drew ?_))))); rintro e w4 ⟨rfl, hb4⟩; have hb4 := Lib.hid hb4; have B4 := Lib.hid (below_step (by first | exact B3.out | exact (below_alloc B3.out _) | exact (below_alloc (below_alloc B3.out _) _) | exact (below_alloc (below_alloc (below_alloc B3.out _) _) _) | exact (below_alloc (below_alloc (below_alloc (below_alloc B3.out _) _) _) _)) hb4.out))
        | (go_at_call 17; with_reducible refine (NUM.out _ ?sk _ (TX8.out.below ?sb)).mono ?_; (case sk => decide); (case sb => (first | exact B4.out | exact (below_alloc B4.out _) | exact (below_alloc (below_alloc B4.out _) _) | exact (below_alloc (below_alloc (below_alloc B4.out _) _) _) | exact (below_alloc (below_alloc (below_alloc (below_alloc B4.out _) _) _) _))); rintro e w5 ⟨rfl, hb5⟩; have hb5 := Lib.hid hb5; have B5 := Lib.hid (below_step (by first | exact B4.out | exact (below_alloc B4.out _) | exact (below_alloc (below_alloc B4.out _) _) | exact (below_alloc (below_alloc (below_alloc B4.out _) _) _) | exact (below_alloc (below_alloc (below_alloc (below_alloc B4.out _) _) _) _)) hb5.out))
        | (go_at_call 14; with_reducible refine (same_at _ _ _ _ _ _ [(nS false [49] [51]), (numV 5)] [(⟨false, ⟨#[49]⟩, ⟨#[51]⟩⟩ : SR), (numV 5)] () (Kd.C_below D7.out ?sb) L7.out ?s1 ?sf).mono ?_; (case sf => kernel_rfl); (case sb => (first | exact B5.out | exact (below_alloc B5.out _) | exact (below_alloc (below_alloc B5.out _) _) | exact (below_alloc (below_alloc (below_alloc B5.out _) _) _) | exact (below_alloc (below_alloc (below_alloc (below_alloc B5.out _) _) _) _))); (case s1 => (apply rhsAtS; ((try (first | exact bk_newC rfl | exact bk_newC (by simp; done) | refine bk_below hb5.out ?_ | refine bk_below hb4.out ?_ | refine bk_below hb3.out ?_ | refine bk_below hb2.out ?_ | refine bk_below hb1.out ?_ | refine bk_alloc ?_ | refine bk_drew ?_)); (try (first | exact bk_newC rfl | exact bk_newC (by simp; done) | refine bk_below hb5.out ?_ | refine bk_below hb4.out ?_ | refine bk_below hb3.out ?_ | refine bk_below hb2.out ?_ | refine bk_below hb1.out ?_ | refine bk_alloc ?_ | refine bk_drew ?_)); (try (first | exact bk_newC rfl | exact bk_newC (by simp; done) | refine bk_below hb5.out ?_ | refine bk_below hb4.out ?_ | refine bk_below hb3.out ?_ | refine bk_below hb2.out ?_ | refine bk_below hb1.out ?_ | refine bk_alloc ?_ | refine bk_drew ?_)); (try (first | exact bk_newC rfl | exact bk_newC (by simp; done) | refine bk_below hb5.out ?_ | refine bk_below hb4.out ?_ | refine bk_below hb3.out ?_ | refine bk_below hb2.out ?_ | refine bk_below hb1.out ?_ | refine bk_alloc ?_ | refine bk_drew ?_)); (try (first | exact bk_newC rfl | exact bk_newC (by simp; done) | refine bk_below hb5.out ?_ | refine bk_below hb4.out ?_ | refine bk_below hb3.out ?_ | refine bk_below hb2.out ?_ | refine bk_below hb1.out ?_ | refine bk_alloc ?_ | refine bk_drew ?_)); (try (first | exact bk_newC rfl | exact bk_newC (by simp; done) | refine bk_below hb5.out ?_ | refine bk_below hb4.out ?_ | refine bk_below hb3.out ?_ | refine bk_below hb2.out ?_ | refine bk_below hb1.out ?_ | refine bk_alloc ?_ | refine bk_drew ?_)); (try (first | exact bk_newC rfl | exact bk_newC (by simp; done) | refine bk_below hb5.out ?_ | refine bk_below hb4.out ?_ | refine bk_below hb3.out ?_ | refine bk_below hb2.out ?_ | refine bk_below hb1.out ?_ | refine bk_alloc ?_ | refine bk_drew ?_)); (try (first | exact bk_newC rfl | exact bk_newC (by simp; done) | refine bk_below hb5.out ?_ | refine bk_below hb4.out ?_ | refine bk_below hb3.out ?_ | refine bk_below hb2.out ?_ | refine bk_below hb1.out ?_ | refine bk_alloc ?_ | refine bk_drew ?_)); (try (first | exact bk_newC rfl | exact bk_newC (by simp; done) | refine bk_below hb5.out ?_ | refine bk_below hb4.out ?_ | refine bk_below hb3.out ?_ | refine bk_below hb2.out ?_ | refine bk_below hb1.out ?_ | refine bk_alloc ?_ | refine bk_drew ?_)); (try (first | exact bk_newC rfl | exact bk_newC (by simp; done) | refine bk_below hb5.out ?_ | refine bk_below hb4.out ?_ | refine bk_below hb3.out ?_ | refine bk_below hb2.out ?_ | refine bk_below hb1.out ?_ | refine bk_alloc ?_ | refine bk_drew ?_))))); rintro e w6 ⟨rfl, hb6⟩; have hb6 := Lib.hid hb6; have B6 := Lib.hid (below_step (by first | exact B5.out | exact (below_alloc B5.out _) | exact (below_alloc (below_alloc B5.out _) _) | exact (below_alloc (below_alloc (below_alloc B5.out _) _) _) | exact (below_alloc (below_alloc (below_alloc (below_alloc B5.out _) _) _) _)) hb6.out)))
    all_goals go_wp2_with fail
    all_goals go_meet
    all_goals exact ⟨rfl, B6⟩
  case rest =>
  obtain ⟨rfl, HW⟩ := hcut
  have HF := Lib.hid (below_step C8.out HW.out)
  go_wp2_with fail
  go_ret
  exact ⟨rfl, HF.out⟩
end Go.Proofs.YtmkanjcehhbmlaaGreatDoor.Pr
end
