/- What came in, opened: a list of numbers, a list of rows of numbers; the powers of ten out of the row's list. -/
import Derived.ProofKit
import Derived.OpenShut
import Derived.Deep.Slices
import Derived.Lib.LaidTab
import Derived.Lay
import Derived.Test.YtmkanjcehhbmlaaGreatDoorDGW
import Derived.Test.YtmkanjcehhbmlaaGreatDoorDGW2
import Derived.Test.YtmkanjcehhbmlaaGreatDoorDTab
import Derived.Test.YtmkanjcehhbmlaaGreatDoorDWLast
set_option linter.all false
section
namespace Go.Proofs.YtmkanjcehhbmlaaGreatDoor.Pr
set_option linter.unusedSimpArgs false
set_option linter.unusedVariables false
open Go.RowKit Go.Deep Go.ChangeShapes Go.WideShapes Go.Proofs.YtmkanjcehhbmlaaGreatDoorW.PrintWords
section
variable {H : Type} {enc : TypeId × Value → H} {w : World} {base : Nat} {spare : Nat → Bool} {held : Bool}
theorem c3 : Tryz.prog.cellsOf 31 = 3 := by kernel_rfl
theorem c1r : Tryz.prog.cellsOf 23 = 1 := by kernel_rfl
set_option maxRecDepth 100000 in
/-- A number's three cells. -/
theorem open_ratio {fuel : Nat} {cs : List Value} {x : DataW H × List MemPlace} (h : DataW.trod enc Tryz.prog w base spare held fuel 31 cs = some x) : ∃ s : S31, cs = [.bool s.f0, .string s.f1, .string s.f2] := by
  obtain ⟨xs, k, hk, hxy, hcl, hxl, hf⟩ := DataW.trod_struct Tryz.underlying31 h
  have hlen : cs.length = 3 := by rw [hcl]; exact c3
  match cs, hlen with
  | [v0, v1, v2], _ =>
    have hx3 : xs.length = 3 := by simpa using hxl
    match xs, hx3 with
    | [y0, y1, y2], _ =>
      have g0 := hf 0 _ rfl
      have g1 := hf 1 _ rfl
      have g2 := hf 2 _ rfl
      have e0 : Tryz.prog.cellsOf 4 = 1 := by kernel_rfl
      have e1 : Tryz.prog.cellsOf 9 = 1 := by kernel_rfl
      simp [e0, e1] at g0 g1 g2
      obtain ⟨b, h0, _⟩ := DataW.trod_bool Tryz.underlying4 g0
      obtain ⟨s1, h1, _⟩ := DataW.trod_string Tryz.underlying9 g1
      obtain ⟨s2, h2, _⟩ := DataW.trod_string Tryz.underlying9 g2
      simp at h0 h1 h2
      exact ⟨⟨b, s1, s2⟩, by rw [h0, h1, h2]⟩
/-- A list of numbers. -/
theorem open_ratios {fuel : Nat} {cs : List Value} {x : DataW H × List MemPlace} (h : DataW.trod enc Tryz.prog w base spare held fuel 23 cs = some x) :
    ∃ A len cap xs, cs = [.slice A len cap] ∧ len ≤ cap ∧ Kd.C k31 w A len xs := by
  rcases open_slice Tryz.underlying23 h with ⟨rfl, _⟩ | ⟨a, len, cap, m, n, D, Pl, rfl, hb, hl, hm, hmm, _, hx⟩
  · exact ⟨none, 0, 0, [], rfl, Nat.le_refl _, rfl, by omega, fun h => absurd h (by omega)⟩
  · have hlm : len ≤ m := by rw [hmm]; split <;> omega
    obtain ⟨f, hf⟩ : ∃ f : Nat → S31, ∀ i, i < len → w.cells? base (a.add (i * 3)) 3 = some [.bool (f i).f0, .string (f i).f1, .string (f i).f2] := by
      have key : ∀ i, ∃ s : S31, i < len → w.cells? base (a.add (i * 3)) 3 = some [.bool s.f0, .string s.f1, .string s.f2] := fun i => by
        by_cases hi : i < len
        · obtain ⟨cs', h1, h2⟩ := hx i (by omega)
          rw [c3] at h1
          obtain ⟨s, rfl⟩ := open_ratio h2
          exact ⟨s, fun _ => h1⟩
        · exact ⟨z31, fun h => absurd h hi⟩
      exact Classical.axiomOfChoice key
    refine ⟨some a, len, cap, (List.range len).map f, rfl, hl, by simp, by unfold maxLen at hm; omega, fun _ => ⟨a, rfl, fun j p hj => ?_⟩⟩
    have hjl : j < len := by have := (List.getElem?_eq_some_iff.1 hj).1; simpa using this
    have hp : f j = p := by simpa [hjl] using hj
    obtain ⟨_, _, hcell⟩ := World.cells?_some (hf j hjl)
    refine ⟨_, rfl, k31_mk w p, fun i u hu => ?_⟩
    have hi3 : i < 3 := by have := (List.getElem?_eq_some_iff.1 hu).1; simpa using this
    have := hcell i hi3
    rw [Go.Deep.add_add] at this
    show w.cell? (a.add (j * 3 + i)) = some u
    rw [this, hp, hu]
/-- A list of rows. -/
theorem open_rows {fuel : Nat} {cs : List Value} {x : DataW H × List MemPlace} (h : DataW.trod enc Tryz.prog w base spare held fuel 22 cs = some x) :
    ∃ A len cap l, cs = [.slice A len cap] ∧ len ≤ cap ∧ Kd.C (Kd.slice 31 k31) w A len l := by
  rcases open_slice1 Tryz.underlying22 c1r h with ⟨rfl, _⟩ | ⟨a, len, cap, m, n, V, D, Pl, rfl, hb, hl, hm, hmm, _, hx⟩
  · exact ⟨none, 0, 0, [], rfl, Nat.le_refl _, rfl, by omega, fun h => absurd h (by omega)⟩
  · have hlm : len ≤ m := by rw [hmm]; split <;> omega
    have key : ∀ i, ∃ s : List S31, i < len → ∃ A c, w.cell? (a.add i) = some (.slice A s.length c) ∧ s.length ≤ c ∧ Kd.C k31 w A s.length s := fun i => by
      by_cases hi : i < len
      · obtain ⟨h1, h2⟩ := hx i (by omega)
        obtain ⟨A, l, c, xs, e, hlc, hC⟩ := open_ratios h2
        have e' : V i = .slice A l c := by simpa using e
        obtain rfl := hC.1
        exact ⟨xs, fun _ => ⟨A, c, by rw [h1, e'], hlc, hC⟩⟩
      · exact ⟨[], fun h => absurd h hi⟩
    obtain ⟨f, hf⟩ := Classical.axiomOfChoice key
    refine ⟨some a, len, cap, (List.range len).map f, rfl, hl, by simp, by unfold maxLen at hm; omega, fun _ => ⟨a, rfl, fun j p hj => ?_⟩⟩
    have hjl : j < len := by have := (List.getElem?_eq_some_iff.1 hj).1; simpa using this
    have hp : f j = p := by simpa [hjl] using hj
    obtain ⟨A, c, hc, hlc, hC⟩ := hf j hjl
    rw [hp] at hc hlc hC
    refine ⟨[.slice A p.length c], rfl, ⟨A, c, rfl, hlc, hC⟩, fun i u hu => ?_⟩
    match i, hu with
    | 0, hu =>
      injection hu with hu; subst hu
      show w.cell? (a.add (j * 1 + 0)) = _
      rw [show j * 1 + 0 = j by omega]; exact hc
end
theorem rowsBound {w : World} {A : Option Addr} {l : List (List S31)} (h : Kd.C (Kd.slice 31 k31) w A l.length l) : ∀ r ∈ l, r.length ≤ 9223372036854775807 := by
  intro r hr
  obtain ⟨j, hj, rfl⟩ := List.getElem_of_mem hr
  obtain ⟨ad, e, hc⟩ := h.2.2 (by omega)
  obtain ⟨c, _, ⟨A', c', _, _, hC⟩, _⟩ := hc j _ (List.getElem?_eq_getElem hj)
  exact hC.2.1
theorem gPow : Tryz.prog.globalNamed "internal/strconv.uint64pow10" = some 0 := by kernel_rfl
theorem gPowType : (Tryz.prog.globals[0]?).map (·.type) = some 140 := by kernel_rfl
theorem cPow : Tryz.prog.cellsOf 140 = 20 := by kernel_rfl
theorem cU : Tryz.prog.cellsOf 99 = 1 := by kernel_rfl
/-- Out of a list's reading: what its variable of the name holds. -/
theorem laidVars_mem {W : World} {n : String} {d : DataW Unit} : ∀ {l : List (String × DataW Unit)} {ps : List MemPlace}, DataW.LaidVars Tryz.prog W l ps → (n, d) ∈ l → ∃ g t cs fuel p, Tryz.prog.globalNamed n = some g ∧ (Tryz.prog.globals[g]?).map (·.type) = some t ∧ W.var? Tryz.prog n = some cs ∧ DataW.trod (fun _ => ()) Tryz.prog W 0 (fun _ => true) false fuel t cs.toList = some (d, p)
  | [], _, _, hm => by cases hm
  | (n', d') :: r, ps, h, hm => by
    obtain ⟨g, t, cs, fuel, p, q, h1, h2, h3, h4, h5, _⟩ := h
    rcases List.mem_cons.1 hm with e | e
    · injection e with e1 e2; subst e1; subst e2
      exact ⟨g, t, cs, fuel, p, h1, h2, h3, h4⟩
    · exact laidVars_mem h5 e
theorem tab_of {W : World} {l : List (String × DataW Unit)} (h : laidMet Tryz.prog l W) (hm : ("internal/strconv.uint64pow10", Lib.tabData .u64 Lib.pow10Tab) ∈ l) : Tab W := by
  obtain ⟨ps, hv, _⟩ := h
  obtain ⟨g, t, cs, fuel, p, hg, ht, hvar, hd⟩ := laidVars_mem hv hm
  obtain rfl := Option.some.inj (gPow.symm.trans hg)
  obtain rfl := Option.some.inj (gPowType.symm.trans ht)
  unfold Tab Lib.TabIs
  rw [hvar, ← Lib.cells_of_tab Tryz.underlying140 Tryz.underlying99 cU cPow hd]
end Go.Proofs.YtmkanjcehhbmlaaGreatDoor.Pr
end
