/- The contract of natural.Is. -/
import Derived.Test.YtmkanjcehhbmlaaGreatDoorDGW
import Derived.Test.YtmkanjcehhbmlaaGreatDoorDNum
import Derived.Test.YtmkanjcehhbmlaaGreatDoorDShelf
import Derived.Test.YtmkanjcehhbmlaaGreatDoorDSpec
import Derived.Test.YtmkanjcehhbmlaaGreatDoorDWLast
set_option linter.all false
section
namespace Go.Proofs.YtmkanjcehhbmlaaGreatDoor.Pr
set_option linter.unusedSimpArgs false
set_option linter.unusedVariables false
open Go.RowKit Go.Shelf Go.Proofs.YtmkanjcehhbmlaaGreatDoorW.PrintWords Go.Proofs.YtmkanjcehhbmlaaGreatDoorW.PrintLast Go.Proofs.YtmkanjcehhbmlaaGreatDoorW.PrintMore
abbrev digs : List UInt8 := [48, 49, 50, 51, 52, 53, 54, 55, 56, 57]
theorem dig_ascii (b : UInt8) (h : b ∈ (⟨#[48, 49, 50, 51, 52, 53, 54, 55, 56, 57]⟩ : ByteArray).data.toList) : b.toNat < 128 := by
  have h2 : b ∈ digs := h
  simp only [digs, List.mem_cons, List.not_mem_nil, or_false] at h2
  rcases h2 with rfl | rfl | rfl | rfl | rfl | rfl | rfl | rfl | rfl | rfl <;> decide
theorem dig_fin : ∀ n : Fin 256, digs.contains (UInt8.ofNat n.val) = Sp.isDig (UInt8.ofNat n.val) := by decide +kernel
theorem dig_contains (b : UInt8) : digs.contains b = Sp.isDig b := by
  have h := dig_fin ⟨b.toNat, b.toNat_lt⟩
  have e : UInt8.ofNat b.toNat = b := UInt8.ofNat_toNat
  rwa [e] at h
theorem dropWhile_nil {α : Type} (p : α → Bool) : ∀ l : List α, l.dropWhile p = [] ↔ ∀ x ∈ l, p x = true
  | [] => by simp
  | x :: l => by
    rw [List.dropWhile_cons]
    by_cases h : p x = true
    · rw [if_pos h, dropWhile_nil p l]; simp [h]
    · rw [if_neg h]; simp [h]
theorem mem_dropWhile {α : Type} (p : α → Bool) : ∀ (l : List α) (x : α), x ∈ l → p x = false → x ∈ l.dropWhile p
  | y :: l, x, h, hp => by
    rw [List.dropWhile_cons]
    split
    · rename_i hy
      rcases List.mem_cons.1 h with rfl | h
      · rw [hp] at hy; cases hy
      · exact mem_dropWhile p l x h hp
    · exact h
theorem trim_digs (l : List UInt8) : Lib.trimS l digs = [] ↔ l.all Sp.isDig = true := by
  rw [List.all_eq_true]
  unfold Lib.trimS Lib.trimLeftS Lib.trimRightS
  rw [dropWhile_nil]
  constructor
  · intro h x hx
    cases hd : Sp.isDig x
    · exfalso
      have h1 : x ∈ (l.reverse.dropWhile (digs.contains ·)).reverse := by
        rw [List.mem_reverse]
        exact mem_dropWhile _ _ _ (by simpa using hx) (by rw [dig_contains]; exact hd)
      have := h x h1
      rw [dig_contains, hd] at this
      cases this
    · rfl
  · intro h x hx
    rw [dig_contains]
    exact h x (by have := (List.dropWhile_sublist (l := l.reverse) (digs.contains ·)).mem (by simpa using hx); simpa using this)
set_option maxHeartbeats 4000000 in
set_option maxRecDepth 1000000 in
theorem is_calls (s : ByteArray) (w : World) :
    Calls Tryz.prog 39 #[.string s] w fun e w' => e = .returned (.bool (Sp.isNat s)) ∧ Below w.heap.size w w' := by
  by_cases h1 : s = ⟨#[]⟩
  · subst h1
    go_enter Tryz.func39, Tryz.ntmps39
    go_wp2
    go_ret
    exact ⟨rfl, Below.refl _ _⟩
  · have hpos : 0 < s.size := by
      rcases Nat.eq_zero_or_pos s.size with h | h
      · exfalso; apply h1
        obtain ⟨⟨l⟩⟩ := s
        have : l = [] := List.eq_nil_of_length_eq_zero h
        subst this; rfl
      · exact h
    have hE : s.toList.isEmpty = false := by
      rw [Lib.toList_data]
      rw [List.isEmpty_eq_false_iff]
      intro e
      have : s.data.toList.length = s.size := rfl
      rw [e] at this
      simp at this
      omega
    clear h1
    by_cases h2 : s.size ≤ 300
    · obtain ⟨t, ht⟩ : ∃ t : ByteArray, t = ⟨(Lib.trimS s.data.toList [48, 49, 50, 51, 52, 53, 54, 55, 56, 57]).toArray⟩ := ⟨_, rfl⟩
      have htr : ∀ W, Calls Tryz.prog 59 #[.string s, .string ⟨#[48, 49, 50, 51, 52, 53, 54, 55, 56, 57]⟩] W fun e w' => e = .returned (.string t) ∧ Below W.heap.size W w' := fun W => by
        rw [ht]
        exact Tryz.strings_Trim s ⟨#[48, 49, 50, 51, 52, 53, 54, 55, 56, 57]⟩ W (by omega) (by decide) (by intro j b hb; exact dig_ascii b (List.mem_of_getElem? hb))
      have HT := Lib.hid ht
      have HTR := Lib.hid htr
      clear ht htr
      have hl : s.data.toList.length = s.size := rfl
      have hne : s.data.toList.isEmpty = false := by rw [← Lib.toList_data]; exact hE
      have hall : t.toList.isEmpty = s.data.toList.all Sp.isDig := by
        rw [HT.out, Lib.toList_data]
        show (Lib.trimS s.data.toList digs).isEmpty = _
        cases ha : s.data.toList.all Sp.isDig
        · rw [List.isEmpty_eq_false_iff]
          intro e
          rw [trim_digs, ha] at e
          cases e
        · rw [(trim_digs _).2 ha]; rfl
      have hN : Sp.isNat s = (t.toList.isEmpty && (decide (s.size = 1) || s.data.toList.headD 0 != 48)) := by
        unfold Sp.isNat Sp.isNatL
        rw [hne, hl, decide_eq_true h2, hall]
        simp
      have HNN := Lib.hid hN
      clear hN hall hne hl
      cases hte : t.toList.isEmpty
      · go_enter Tryz.func39, Tryz.ntmps39
        go_wp2_with (go_at_call 59; refine (HTR.out _).mono ?_; rintro e w1 ⟨rfl, hb1⟩)
        go_ret
        rw [HNN.out, hte]
        exact ⟨rfl, hb1⟩
      · by_cases h4 : s.size = 1
        · go_enter Tryz.func39, Tryz.ntmps39
          go_wp2_with (go_at_call 59; refine (HTR.out _).mono ?_; rintro e w1 ⟨rfl, hb1⟩)
          go_ret
          rw [HNN.out, hte, h4]
          exact ⟨rfl, hb1⟩
        · go_enter Tryz.func39, Tryz.ntmps39
          go_wp2_with (go_at_call 59; refine (HTR.out _).mono ?_; rintro e w1 ⟨rfl, hb1⟩)
          go_ret
          rw [HNN.out, hte]
          refine ⟨?_, hb1⟩
          have e1 : (((s.size : Nat) : Int) == 1) = false := by rw [beq_eq_false_iff_ne]; omega
          have e2 : s.data.toList.headD 0 = s[0] := by
            obtain ⟨⟨l⟩⟩ := s
            cases l with
            | nil => exact absurd hpos (by decide)
            | cons x xs => rfl
          have e3 : ((((s[0]).toNat : Nat) : Int) != 48) = (s[0] != 48) := by
            by_cases hb : s[0] = 48
            · rw [hb]; rfl
            · have : (s[0]).toNat ≠ 48 := fun e => hb (UInt8.toNat_inj.1 e)
              rw [bne_iff_ne.2 hb]
              exact bne_iff_ne.2 (by omega)
          rw [e2, decide_eq_false h4, Bool.false_or, Bool.true_and, ← e3]
          show Ending.returned (Value.bool (_ || _)) = _
          rw [e1, Bool.false_or]
    · have hs : Sp.isNat s = false := by
        unfold Sp.isNat Sp.isNatL
        have : s.data.toList.length = s.size := rfl
        rw [this, decide_eq_false h2]
        simp
      rw [hs]
      go_enter Tryz.func39, Tryz.ntmps39
      go_wp2
      go_ret
      exact ⟨rfl, Below.refl _ _⟩
end Go.Proofs.YtmkanjcehhbmlaaGreatDoor.Pr
end
