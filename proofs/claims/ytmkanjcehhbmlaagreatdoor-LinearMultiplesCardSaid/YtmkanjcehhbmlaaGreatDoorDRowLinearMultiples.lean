/- LinearMultiples, proved for the given program: If an equation is multiplied by a number other than 0 and another one is added to it, the solution is the same, where there is no ErrLimit. No condition beyond the row's own. -/
import Derived.Test.YtmkanjcehhbmlaaGreatDoorCards
import Derived.Test.YtmkanjcehhbmlaaGreatDoorTie
import Derived.LaidMore
import Derived.SevenTiedAt
import Derived.Stop.Joined
import Derived.Test.YtmkanjcehhbmlaaGreatDoorDBuild
import Derived.Test.YtmkanjcehhbmlaaGreatDoorDFmt
import Derived.Test.YtmkanjcehhbmlaaGreatDoorDGL1
import Derived.Test.YtmkanjcehhbmlaaGreatDoorDGL2
import Derived.Test.YtmkanjcehhbmlaaGreatDoorDGN
import Derived.Test.YtmkanjcehhbmlaaGreatDoorDGN2
import Derived.Test.YtmkanjcehhbmlaaGreatDoorDGN3
import Derived.Test.YtmkanjcehhbmlaaGreatDoorDGP
import Derived.Test.YtmkanjcehhbmlaaGreatDoorDGRR
import Derived.Test.YtmkanjcehhbmlaaGreatDoorDGRS
import Derived.Test.YtmkanjcehhbmlaaGreatDoorDGT
import Derived.Test.YtmkanjcehhbmlaaGreatDoorDGW
import Derived.Test.YtmkanjcehhbmlaaGreatDoorDGW2
import Derived.Test.YtmkanjcehhbmlaaGreatDoorDHead19
import Derived.Test.YtmkanjcehhbmlaaGreatDoorDLinQ
import Derived.Test.YtmkanjcehhbmlaaGreatDoorDLinS
import Derived.Test.YtmkanjcehhbmlaaGreatDoorDNatApply
import Derived.Test.YtmkanjcehhbmlaaGreatDoorDNatS
import Derived.Test.YtmkanjcehhbmlaaGreatDoorDNum
import Derived.Test.YtmkanjcehhbmlaaGreatDoorDNumAdd
import Derived.Test.YtmkanjcehhbmlaaGreatDoorDNumCmp
import Derived.Test.YtmkanjcehhbmlaaGreatDoorDNumDiv
import Derived.Test.YtmkanjcehhbmlaaGreatDoorDNumIs
import Derived.Test.YtmkanjcehhbmlaaGreatDoorDNumMul
import Derived.Test.YtmkanjcehhbmlaaGreatDoorDNumOps
import Derived.Test.YtmkanjcehhbmlaaGreatDoorDNumParse
import Derived.Test.YtmkanjcehhbmlaaGreatDoorDNumText
import Derived.Test.YtmkanjcehhbmlaaGreatDoorDNumVal
import Derived.Test.YtmkanjcehhbmlaaGreatDoorDOpen19
import Derived.Test.YtmkanjcehhbmlaaGreatDoorDPrA1
import Derived.Test.YtmkanjcehhbmlaaGreatDoorDPrA10
import Derived.Test.YtmkanjcehhbmlaaGreatDoorDPrA11
import Derived.Test.YtmkanjcehhbmlaaGreatDoorDPrA3
import Derived.Test.YtmkanjcehhbmlaaGreatDoorDPrA4
import Derived.Test.YtmkanjcehhbmlaaGreatDoorDPrA5
import Derived.Test.YtmkanjcehhbmlaaGreatDoorDPrA6
import Derived.Test.YtmkanjcehhbmlaaGreatDoorDPrB1
import Derived.Test.YtmkanjcehhbmlaaGreatDoorDPrB2
import Derived.Test.YtmkanjcehhbmlaaGreatDoorDPrB3
import Derived.Test.YtmkanjcehhbmlaaGreatDoorDPrC1
import Derived.Test.YtmkanjcehhbmlaaGreatDoorDRatOps
import Derived.Test.YtmkanjcehhbmlaaGreatDoorDRatProd
import Derived.Test.YtmkanjcehhbmlaaGreatDoorDRatSum
import Derived.Test.YtmkanjcehhbmlaaGreatDoorDRatVal
import Derived.Test.YtmkanjcehhbmlaaGreatDoorDRegInv
import Derived.Test.YtmkanjcehhbmlaaGreatDoorDShelf
import Derived.Test.YtmkanjcehhbmlaaGreatDoorDSpec
import Derived.Test.YtmkanjcehhbmlaaGreatDoorDTab
import Derived.Test.YtmkanjcehhbmlaaGreatDoorDWLast
set_option linter.all false
section
namespace Go.Proofs.YtmkanjcehhbmlaaGreatDoor.linearMultiples
open Go.ChangeShapes Go.WideShapes Go.ChangeAt Go.RowKit Go.Proofs.YtmkanjcehhbmlaaGreatDoor.Pr
set_option linter.unusedVariables false
theorem own : ownKnob Tryz.prog.godebug = none := by kernel_rfl
theorem laidOut : laidOutB Tryz.prog = true := by kernel_rfl
set_option maxRecDepth 100000 in
theorem lifted (os : Os) (started : os.Started) (H : Type) (enc : TypeId × Value → H) :
    ReturnsInHanded {} Tryz.checked os 8 .any (fun w args => (Rows.linearMultiplesSpec.pre enc Tryz.prog Tryz.f8 Rows.linearMultiplesRow.domain false w args ∧ laidMetH Tryz.prog Rows.linearMultiplesRow.laid w) ∧ sizedMet enc Tryz.prog Tryz.f8 (OpenSpec.ofChange Rows.linearMultiplesSpec) false w args)
      (Rows.linearMultiplesSpec.post enc Tryz.prog Tryz.f8 false true false false) := by
  refine returnsInHanded_of_change_and (C := Tryz.checked) (X := fun w _ => laidMetH Tryz.prog Rows.linearMultiplesRow.laid w) (fun _ _ _ hh h => h.of_heap hh) own started (by kernel_rfl) Tryz.func8
    (ChangeSpec.witness_shaped (enc := enc) (C := Tryz.checked) (os := os) (X := fun w _ => laidMetH Tryz.prog Rows.linearMultiplesRow.laid w) false (World.laidAll Tryz.prog os Rows.linearMultiplesRow.laid) #[.slice none 0 0, .slice none 0 0, .agg #[.bool false, .string ⟨#[]⟩, .string ⟨#[]⟩], .int .u8 0, .int .u8 0] 8 (World.laidAll_os _ _ _)
      (World.shaped_of_ZipB (by kernel_rfl) (by kernel_rfl)) (by kernel_rfl) (by kernel_rfl) (by kernel_rfl)
      (by rw [MakeChecks.laidMetH_plain _ _ _ (by kernel_rfl)]; exact laidMet_laidAll _ (by kernel_rfl) (by kernel_rfl))) ?_
  intro W base args ds gs before hval0 hW hc _ hL _
  have hval : ∀ (j : Nat) t v, Tryz.f8.params[j]? = some t → args[j]? = some v → Value.okWide Tryz.prog W .any base t v := hval0
  have hW' := hW
  obtain ⟨p, q, hA0, hV, rfl, hfz, hnd⟩ := hW
  have hA : DataW.TrodAll enc Tryz.prog W 0 (fun _ => true) true Tryz.f8.params.toList args.toList ds p := hA0
  rw [Tryz.params8] at hA hval
  obtain ⟨v0, vs0, d0, ds0, p0, q0, hargs, rfl, rfl, h0, r0⟩ := trodAll_cons hA
  obtain ⟨v1, vs1, d1, ds1, p1, q1, rfl, rfl, rfl, h1, r1⟩ := trodAll_cons r0
  obtain ⟨v2, vs2, d2, ds2, p2, q2, rfl, rfl, rfl, h2, r2⟩ := trodAll_cons r1
  obtain ⟨v3, vs3, d3, ds3, p3, q3, rfl, rfl, rfl, h3, r3⟩ := trodAll_cons r2
  obtain ⟨v4, vs4, d4, ds4, p4, q4, rfl, rfl, rfl, h4, r4⟩ := trodAll_cons r3
  obtain ⟨rfl, rfl, rfl⟩ := trodAll_nil r4
  obtain rfl : args = #[v0, v1, v2, v3, v4] := by cases args; simp_all
  obtain ⟨rfl, rfl⟩ := trodVars_none hV
  obtain ⟨a0, len0, cap0, rfl⟩ := okWide_slice Tryz.underlying22 (hval 0 22 v0 rfl rfl)
  have k0 := h0
  have lt0 : ∀ x ∈ p0, x.block < W.heap.size := by obtain ⟨m, hm⟩ := k0; exact DataW.trod_lt m _ _ _ hm
  obtain ⟨l0, hle0, hC0⟩ : ∃ l, len0 ≤ cap0 ∧ Go.Proofs.YtmkanjcehhbmlaaGreatDoorW.PrintWords.Kd.C (Go.Proofs.YtmkanjcehhbmlaaGreatDoorW.PrintWords.Kd.slice 31 k31) W a0 len0 l := by
    obtain ⟨fuel, hf⟩ := h0
    obtain ⟨A, l, c, xs, e, e1, e2⟩ := open_rows hf
    simp [Value.cells] at e
    obtain ⟨rfl, rfl, rfl⟩ := e
    exact ⟨xs, e1, e2⟩
  obtain rfl := hC0.1
  obtain ⟨a1, len1, cap1, rfl⟩ := okWide_slice Tryz.underlying23 (hval 1 23 v1 rfl rfl)
  have k1 := h1
  have lt1 : ∀ x ∈ p1, x.block < W.heap.size := by obtain ⟨m, hm⟩ := k1; exact DataW.trod_lt m _ _ _ hm
  obtain ⟨l1, hle1, hC1⟩ : ∃ l, len1 ≤ cap1 ∧ Go.Proofs.YtmkanjcehhbmlaaGreatDoorW.PrintWords.Kd.C k31 W a1 len1 l := by
    obtain ⟨fuel, hf⟩ := h1
    obtain ⟨A, l, c, xs, e, e1, e2⟩ := open_ratios hf
    simp [Value.cells] at e
    obtain ⟨rfl, rfl, rfl⟩ := e
    exact ⟨xs, e1, e2⟩
  obtain rfl := hC1.1
  have k2 := h2
  have lt2 : ∀ x ∈ p2, x.block < W.heap.size := by obtain ⟨m, hm⟩ := k2; exact DataW.trod_lt m _ _ _ hm
  obtain ⟨cs2, rfl, _⟩ := okWide_struct Tryz.underlying31 (hval 2 31 v2 rfl rfl)
  obtain ⟨s2, hs2⟩ : ∃ s : S31, cs2 = #[.bool s.f0, .string s.f1, .string s.f2] := by
    obtain ⟨fuel, hf⟩ := h2
    obtain ⟨s, e⟩ := open_ratio hf
    exact ⟨s, by simpa [Value.cells] using congrArg List.toArray e⟩
  subst hs2
  have k3 := h3
  have lt3 : ∀ x ∈ p3, x.block < W.heap.size := by obtain ⟨m, hm⟩ := k3; exact DataW.trod_lt m _ _ _ hm
  obtain ⟨n3, rfl, _, _, wf3⟩ := open_int Tryz.underlying5 (hval 3 5 v3 rfl rfl) h3
  have k4 := h4
  have lt4 : ∀ x ∈ p4, x.block < W.heap.size := by obtain ⟨m, hm⟩ := k4; exact DataW.trod_lt m _ _ _ hm
  obtain ⟨n4, rfl, _, _, wf4⟩ := open_int Tryz.underlying5 (hval 4 5 v4 rfl rfl) h4
  have hTab : Tab W := by
    rw [MakeChecks.laidMetH_plain _ _ _ (by kernel_rfl)] at hL
    exact tab_of hL (by rw [show Lib.tabData .u64 Lib.pow10Tab = Rows.laid_internal_strconv_uint64pow10 by kernel_rfl]; simp [Rows.linearMultiplesRow])
  clear hA0 hval0
  simp only [List.append_nil] at hW'
  refine (multi_calls a0 cap0 l0 a1 cap1 l1 s2 n3 n4 W hTab hC0 hle0 hC1 hle1  wf3 wf4 (rowsBound hC0)).mono fun e W' ⟨he, bel⟩ => ?_
  subst he
  exact ⟨_, rfl, _, _, _, [], _, [], hW', trodAll_mk1 (shut_bool Tryz.underlying4 _), (trodAll_cons_mk (Below.trod laidOut (by kernel_rfl) (of_decide_eq_true (by kernel_rfl)) k0 bel lt0) (trodAll_cons_mk (Below.trod laidOut (by kernel_rfl) (of_decide_eq_true (by kernel_rfl)) k1 bel lt1) (trodAll_cons_mk (Below.trod laidOut (by kernel_rfl) (of_decide_eq_true (by kernel_rfl)) k2 bel lt2) (trodAll_cons_mk (Below.trod laidOut (by kernel_rfl) (of_decide_eq_true (by kernel_rfl)) k3 bel lt3) (trodAll_cons_mk (Below.trod laidOut (by kernel_rfl) (of_decide_eq_true (by kernel_rfl)) k4 bel lt4) trodAll_mk0))))), rfl, bel.frame _, fun h => by cases h⟩
theorem said : Rows.LinearMultiplesSaid :=
  OpenClaim.holds_of_wide 8 Tryz.f8 rfl rfl rfl rfl rfl rfl rfl ⟨rfl, rfl, rfl, rfl, rfl⟩ rfl rfl rfl rfl rfl (by kernel_rfl) Tryz.func8 (by kernel_rfl)
    (of_decide_eq_true (by kernel_rfl)) (by unfold Func.isWrapper; first | (rw [if_pos (by decide +kernel)]; kernel_rfl) | (rw [if_neg (by decide +kernel)]; exact ⟨rfl, rfl⟩))
    (fun os started H enc _ => lifted os started H enc)
theorem plain (f : FuncId) (fn : Func) (hf : Tryz.pinned.checked.prog.funcNamed "customhouse/customhouselaw19.LinearMultiples" = some f) (hfn : Tryz.pinned.checked.prog.funcs[f]? = some fn) :
    true = Tryz.pinned.checked.prog.looks [] ∧ ∀ (j : Nat) t, fn.params[j]? = some t → Tryz.pinned.checked.prog.wantsStandIn t = false := by
  obtain rfl : f = 8 := Option.some.inj ((show Tryz.prog.funcNamed "customhouse/customhouselaw19.LinearMultiples" = some 8 by kernel_rfl).symm.trans hf) |>.symm
  obtain rfl : fn = Tryz.f8 := (Option.some.inj (Tryz.func8.symm.trans hfn)).symm
  refine ⟨by kernel_rfl, fun j t ht => ?_⟩
  rw [Tryz.params8] at ht
  have hm : t ∈ [22, 23, 31, 5, 5] := by simpa using Array.mem_of_getElem? ht
  have hall : ([22, 23, 31, 5, 5].all fun u => !Tryz.prog.wantsStandIn u) = true := by kernel_rfl
  have h := List.all_eq_true.1 hall t hm
  show Tryz.prog.wantsStandIn t = false
  simpa using h
theorem card : Rows.LinearMultiplesCardSaid :=
  Claim7.holds_tied_plain_at .later [] _ _ _ _ said (fun _ h => by cases h) (by kernel_rfl) (fun _ h => by cases h) linearMultiples_row_tie rfl ⟨rfl, rfl⟩ (by kernel_rfl) rfl plain (by kernel_rfl)
end Go.Proofs.YtmkanjcehhbmlaaGreatDoor.linearMultiples
namespace Go.Proofs.YtmkanjcehhbmlaaGreatDoor
/-- The card, under a short name, for the claim. -/
theorem linearMultiples_holds : Rows.LinearMultiplesCardSaid := linearMultiples.card
end Go.Proofs.YtmkanjcehhbmlaaGreatDoor
end
