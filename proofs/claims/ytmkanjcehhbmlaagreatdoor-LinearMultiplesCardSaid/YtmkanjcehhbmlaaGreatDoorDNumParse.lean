/- The contract of natural.parse. -/
import Derived.Lib.ParseIntBCases
import Derived.Test.YtmkanjcehhbmlaaGreatDoorDGN2
import Derived.Test.YtmkanjcehhbmlaaGreatDoorDGW
import Derived.Test.YtmkanjcehhbmlaaGreatDoorDGW2
import Derived.Test.YtmkanjcehhbmlaaGreatDoorDNum
import Derived.Test.YtmkanjcehhbmlaaGreatDoorDPrA4
import Derived.Test.YtmkanjcehhbmlaaGreatDoorDShelf
import Derived.Test.YtmkanjcehhbmlaaGreatDoorDSpec
import Derived.Test.YtmkanjcehhbmlaaGreatDoorDWLast
set_option linter.all false
section
namespace Go.Proofs.YtmkanjcehhbmlaaGreatDoor.Pr
set_option linter.unusedSimpArgs false
set_option linter.unusedVariables false
open Go.RowKit Go.Shelf Go.Proofs.YtmkanjcehhbmlaaGreatDoorW.PrintWords Go.Proofs.YtmkanjcehhbmlaaGreatDoorW.PrintLast Go.Proofs.YtmkanjcehhbmlaaGreatDoorW.PrintMore
/-- The k-th nine digits from the end. -/
def chunkL (l : List UInt8) (k : Nat) : List UInt8 := (l.take (l.length - 9 * k)).drop (l.length - 9 * k - 9)
def rawL (l : List UInt8) (k : Nat) : List Int := (List.range k).map fun j => (Sp.nvalL (chunkL l j) : Int)
def rounds (l : List UInt8) : Nat := (l.length + 8) / 9
def parseL (l : List UInt8) : List Int := trimL (rawL l (rounds l))
theorem parseUintM_digs (M : Nat) (hM : 999999999 ≤ M) : ∀ (l : List UInt8) (acc : Nat), (∀ c ∈ l, Sp.isDig c = true) → (acc + 1) * 10 ^ l.length ≤ 1000000000 → Lib.parseUintM M acc l = .ok (l.foldl (fun n c => 10 * n + (c.toNat - 48)) acc)
  | [], acc, _, _ => rfl
  | c :: r, acc, h, hA => by
    have hc := h c (by simp)
    unfold Sp.isDig at hc
    simp only [Bool.and_eq_true, decide_eq_true_eq] at hc
    have h10 : 1 ≤ 10 ^ r.length := Nat.pow_pos (by omega)
    have e10 : 10 ^ (c :: r).length = 10 * 10 ^ r.length := by rw [List.length_cons, Nat.pow_succ, Nat.mul_comm]
    rw [e10] at hA
    have e1 : acc * 10 + (c.toNat - 48) + 1 ≤ (acc + 1) * 10 := by omega
    have e2 : (acc * 10 + (c.toNat - 48) + 1) * 10 ^ r.length ≤ 1000000000 := Nat.le_trans (Nat.mul_le_mul_right _ e1) (by rw [Nat.mul_assoc]; exact hA)
    have e3 : acc * 10 + (c.toNat - 48) + 1 ≤ 1000000000 := Nat.le_trans (by simpa using Nat.mul_le_mul_left (acc * 10 + (c.toNat - 48) + 1) h10) e2
    rw [Lib.parseUintM]
    have ih := parseUintM_digs M hM r (acc * 10 + (c.toNat - 48)) (fun c hc => h c (by simp [hc])) e2
    rw [if_pos (by omega), if_neg (by omega), if_neg (by omega)]
    rw [ih, List.foldl_cons, Nat.mul_comm acc 10]
theorem parseUintB_digs (l : List UInt8) (h0 : l ≠ []) (h : ∀ c ∈ l, Sp.isDig c = true) (h9 : l.length ≤ 9) : Lib.parseUintB 64 l = .ok (Sp.nvalL l) := by
  unfold Lib.parseUintB
  rw [if_neg h0]
  refine parseUintM_digs _ (by decide) l 0 h ?_
  have : 10 ^ l.length ≤ 10 ^ 9 := Nat.pow_le_pow_right (by omega) h9
  omega
theorem chunk_digs {l : List UInt8} (h : ∀ c ∈ l, Sp.isDig c = true) (k : Nat) : ∀ c ∈ chunkL l k, Sp.isDig c = true := fun c hc => h c (List.mem_of_mem_take (List.mem_of_mem_drop hc))
theorem chunk_len (l : List UInt8) (k : Nat) (hk : 9 * k < l.length) : (chunkL l k).length = min 9 (l.length - 9 * k) := by unfold chunkL; rw [List.length_drop, List.length_take]; omega
theorem extract_chunk (s : ByteArray) (k m : Nat) (hm : m + 9 * k = s.data.toList.length) : (s.extract (m - 9) m).data.toList = chunkL s.data.toList k := by
  unfold chunkL
  rw [show s.data.toList.length - 9 * k = m by omega]
  simp [ByteArray.data_extract, List.drop_take]
theorem rawL_len (l : List UInt8) (k : Nat) : (rawL l k).length = k := by simp [rawL]
theorem rawL_succ (l : List UInt8) (k : Nat) : rawL l (k + 1) = rawL l k ++ [(Sp.nvalL (chunkL l k) : Int)] := by unfold rawL; rw [List.range_succ, List.map_append]; rfl
attribute [local go_sem] max2_int max_two
set_option maxRecDepth 100000 in
set_option maxHeartbeats 4000000 in
theorem parse_calls (s : ByteArray) (w : World) (hd : ∀ c ∈ s.data.toList, Sp.isDig c = true) (hl : s.size ≤ 100000) :
    Calls Tryz.prog 85 #[.string s] w fun e w' => ∃ v : Value, e = .returned v ∧ (Kd.int .u64).V 99 w' w.heap.size (fun k => w.heap.size ≤ k) v (parseL s.data.toList) ∧ Below w.heap.size w w' := by
  obtain ⟨n, hn⟩ : ∃ n : Nat, s.size = n := ⟨_, rfl⟩
  have hn' : s.data.toList.length = n := hn
  have HN := Lib.hid hn'
  have HD := Lib.hid hd
  clear hn' hd
  go_enter Tryz.func85, Tryz.ntmps85
  go_wp2
  go_loopw [3, 4] (fun v e wr => ∃ k : Nat, k ≤ rounds s.data.toList ∧ e = .int .i64 ((n : Int) - 9 * k) ∧ (Kd.int .u64).R 99 wr w.heap.size (fun k => w.heap.size ≤ k) v (rawL s.data.toList k) ∧ Below w.heap.size w wr)
    (fun v e _ => (intOf e + 9).toNat)
  case atStart => exact ⟨0, Nat.zero_le _, by simp [hn], Kd.R_nil _ _ _ _ _, Below.refl _ _⟩
  case round =>
    obtain ⟨k, hk, rfl, hR, hB⟩ := hrel
    by_cases hlt : 9 * k < n
    · obtain ⟨m, hm⟩ : ∃ m : Nat, m + 9 * k = n := ⟨n - 9 * k, by omega⟩
      rw [show (n : Int) - 9 * k = (m : Int) by omega]
      have hm0 : 0 < m := by omega
      have hmn : m ≤ n := by omega
      have HR := Lib.hid hR
      have HB := Lib.hid hB
      clear hR hB
      obtain ⟨u, hu⟩ : ∃ u, u = Sp.nvalL (chunkL s.data.toList k) := ⟨_, rfl⟩
      have hex := extract_chunk s k m (by rw [HN.out]; exact hm)
      have H108 : ∀ W, Calls Tryz.prog 108 #[.string (s.extract (m - 9) m), .int .i64 10, .int .i64 64] W fun e w' => e = .returned (.tuple #[.int .u64 u, .nilIface]) ∧ Below W.heap.size W w' := fun W => by
        refine (Tryz.strconv_ParseUint_10_at64_ok (s.extract (m - 9) m) ?_ u ?_ W).mono ?_
        · rw [ByteArray.size_extract]; omega
        · rw [hex, hu]
          refine parseUintB_digs _ ?_ (chunk_digs HD.out k) ?_
          · intro e; have := chunk_len s.data.toList k (by rw [HN.out]; exact hlt); rw [e, HN.out] at this; simp at this; omega
          · rw [chunk_len s.data.toList k (by rw [HN.out]; exact hlt)]; omega
        · rintro e w' ⟨rfl, h⟩
          refine ⟨rfl, ?_⟩
          rcases h with rfl | rfl
          · exact Below.refl _ _
          · exact Lib.bytesWorld_below _ _ _
      have HU := Lib.hid hu
      clear hu hex
      have hfin : ∀ (E : Int) v1 w2, E = (m : Int) - 9 → (Kd.int .u64).R 99 w2 w.heap.size (fun k => w.heap.size ≤ k) v1 (rawL s.data.toList k ++ [(u : Int)]) → Below w.heap.size w w2 → ∃ k' : Nat, k' ≤ rounds s.data.toList ∧ Value.int .i64 E = .int .i64 ((n : Int) - 9 * k') ∧ (Kd.int .u64).R 99 w2 w.heap.size (fun k => w.heap.size ≤ k) v1 (rawL s.data.toList k') ∧ Below w.heap.size w w2 := fun E v1 w2 hE h1 h2 => by
        refine ⟨k + 1, ?_, ?_, ?_, h2⟩
        · unfold rounds; rw [HN.out]; omega
        · congr 1; omega
        · rw [rawL_succ, ← HU.out]; exact h1
      have HF := Lib.hid hfin
      clear hfin
      by_cases h9 : 9 < m
      · have h1 : (0 : Int) < (m : Int) - 9 := by omega
        have hq : (m : Int) - 9 = ((m - 9 : Nat) : Int) := by omega
        go_wp2_with (first | (go_at_call 108; refine (H108 _).mono ?_; rintro e w1 ⟨rfl, hb1⟩) | (at_builtin; refine Kd.R_append (Kd.int .u64) (w0 := w) w.heap.size rfl (.tmp 23) (.tmp 25) 63 99 (.int .u64 0) 8 rfl Tryz.underlying63 info99 rfl (by decide) (by decide) u3 (rawL s.data.toList k) (u : Int) [.int .u64 u] (fun k => w.heap.size ≤ k) (fun _ => False) rfl rfl rfl (fun _ h => h.elim) (fun k hk => Nat.le_trans (Nat.le_trans HB.out.size hb1.size) hk) (Kd.R_below HR.out hb1) (HB.out.trans (hb1.mono HB.out.size)) (Nat.le_trans HB.out.size hb1.size) (by rw [rawL_len]; omega) ?_; intro v1 w2 hR2 hB2 _ _))
        go_roundw
        case rel => exact HF.out _ _ _ (by omega) hR2 hB2
        case measure => simp only [intOf]; omega
      · have h1 : ¬ (0 : Int) < (m : Int) - 9 := by omega
        have hx0 : s.extract 0 m = s.extract (m - 9) m := by congr 1; omega
        go_wp2_with (first | (go_at_call 108; refine (H108 _).mono ?_; rintro e w1 ⟨rfl, hb1⟩) | (at_builtin; refine Kd.R_append (Kd.int .u64) (w0 := w) w.heap.size rfl (.tmp 23) (.tmp 25) 63 99 (.int .u64 0) 8 rfl Tryz.underlying63 info99 rfl (by decide) (by decide) u3 (rawL s.data.toList k) (u : Int) [.int .u64 u] (fun k => w.heap.size ≤ k) (fun _ => False) rfl rfl rfl (fun _ h => h.elim) (fun k hk => Nat.le_trans (Nat.le_trans HB.out.size hb1.size) hk) (Kd.R_below HR.out hb1) (HB.out.trans (hb1.mono HB.out.size)) (Nat.le_trans HB.out.size hb1.size) (by rw [rawL_len]; omega) ?_; intro v1 w2 hR2 hB2 _ _))
        go_roundw
        case rel => exact HF.out _ _ _ (by omega) hR2 hB2
        case measure => simp only [intOf]; omega
    · have hk2 : k = rounds s.data.toList := by unfold rounds at hk ⊢; rw [HN.out] at hk ⊢; omega
      have h0 : (n : Int) - 9 * k ≤ 0 := by omega
      obtain ⟨A, c, rfl⟩ := Kd.R_slice hR
      have hV := Kd.R_V (base' := wr.heap.size) (Kd.R_tight rfl hR)
      rw [hk2] at hV
      have HV := Lib.hid hV
      have HR := Lib.hid hR
      have HB := Lib.hid hB
      obtain ⟨len, hlen⟩ : ∃ len, len = (rawL s.data.toList k).length := ⟨_, rfl⟩
      clear hR hB hV
      go_wp2_with (go_at_call 109; rw [hk2]; refine (natural_number_trim.calls ((rawL s.data.toList (rounds s.data.toList)).length + 1) _ A c (rawL s.data.toList (rounds s.data.toList)) (parseL s.data.toList) _ HV.out (trim_f _ _ (by omega) ?hlen)).mono ?_; (case hlen => rw [rawL_len]; unfold rounds; rw [HN.out]; omega); rintro e w1 ⟨v1, rfl, hv1, hb1⟩)
      go_ret
      refine ⟨v1, rfl, ?_, HB.out.trans (hb1.mono HB.out.size)⟩
      refine Kd.V_lower (Kd.V_mono hv1 (fun j hj => hj.elim (fun h => ?_) (fun h => Nat.le_trans HB.out.size h))) HB.out.size
      rw [← hk2] at h
      exact HR.out.1 _ h.symm
end Go.Proofs.YtmkanjcehhbmlaaGreatDoor.Pr
end
