/- A region that draws its order, by what each operation leaves: each operation is walked once, whatever the order. -/
import Derived.WalkKit
import Derived.Test.YtmkanjcehhbmlaaGreatDoorDWLast
set_option linter.all false
section
namespace Go.Proofs.YtmkanjcehhbmlaaGreatDoor.Pr
set_option linter.unusedSimpArgs false
set_option linter.unusedVariables false
open Go.RowKit
theorem count_set : ∀ (l : List Bool) (i : Nat), l[i]? = some false → (l.set i true).count false + 1 = l.count false
  | b :: l, 0, h => by
    have : b = false := by simpa using h
    subst this; simp
  | b :: l, i + 1, h => by
    have ih := count_set l i (by simpa using h)
    cases b <;> simp [List.count_cons] at ih ⊢ <;> omega
section
variable {P : Program} {ops : Array Oper} {Q : Exit → Act → World → Prop} {n : Nat}
theorem all_listed (hn : ops.size = n) (hacy : ∀ i o, ops[i]? = some o → ∀ e ∈ o.after.toList, Region.binds .any e = true → e.on < i) {listed : Array Bool} (hs : listed.size = n) (hr : Region.ready .any ops listed = []) : ∀ i, i < n → listed.getD i false = true := by
  intro i
  induction i using Nat.strongRecOn with
  | ind i ih =>
    intro hi
    cases hl : listed.getD i false with
    | true => rfl
    | false =>
      exfalso
      obtain ⟨o, ho⟩ : ∃ o, ops[i]? = some o := ⟨ops[i]'(by omega), Array.getElem?_eq_getElem (by omega)⟩
      have hm : i ∈ Region.ready .any ops listed := by
        unfold Region.ready
        rw [List.mem_filter]
        refine ⟨List.mem_range.2 (by omega), ?_⟩
        have h1 : listed.getD i true = false := by
          rw [Array.getD_eq_getD_getElem?, Array.getElem?_eq_getElem (by omega)] at hl ⊢
          exact hl
        rw [h1, ho]
        simp only [Option.map_some, Option.getD_some, Bool.not_false, Bool.true_and]
        rw [Array.all_eq_true']
        intro e he
        cases hb : Region.binds .any e with
        | false => rfl
        | true =>
          have hlt := hacy i o ho e (Array.mem_toList_iff.2 he) hb
          rw [ih e.on hlt (by omega)]; rfl
      rw [hr] at hm; cases hm
theorem region_inv {id : Nat} (frame : (Nat → Value) → Act) (Pp : Nat → Value → World → Prop) (X : World) (vals0 : Nat → Value)
    (hm : P.follows .mixedOrders = true) (hn : ops.size = n) (hacy : ∀ i o, ops[i]? = some o → ∀ e ∈ o.after.toList, Region.binds .any e = true → e.on < i)
    (hput : ∀ i o vals v, ops[i]? = some o → (frame vals).put o.dst v = frame (fun j => if j = i then v else vals j))
    (mono : ∀ i v w w', Below X.heap.size X w → Pp i v w → Below w.heap.size w w' → Pp i v w')
    (step : ∀ i o vals w, ops[i]? = some o → Below X.heap.size X w → (∀ e, e ∈ o.after.toList → Region.binds .any e = true → Pp e.on (vals e.on) w) →
      if Region.wanted o (yielded ops (frame vals).tmps) = true then Oper.wp P o (frame vals) w (fun a' w' => ∃ v, a' = (frame vals).put o.dst v ∧ Below w.heap.size w w' ∧ Pp i v w') Q else (∃ v, (frame vals).put o.dst undef = (frame vals).put o.dst v ∧ Below w.heap.size w w ∧ Pp i v w))
    (done : ∀ vals w, Below X.heap.size X w → (∀ i, i < n → Pp i (vals i) w) → Q .normal (frame vals) w) :
    (Code.region id ops true).wp P Q (frame vals0) X := by
  have key : ∀ (fuel : Nat) (listed : Array Bool) (vals : Nat → Value) (w : World), listed.size = n → listed.toList.count false ≤ fuel → Below X.heap.size X w → (∀ i, i < n → listed.getD i false = true → Pp i (vals i) w) → wpAny P .any ops Q fuel listed (frame vals) w := by
    intro fuel
    induction fuel with
    | zero =>
      intro listed vals w hs hc hb hP
      have hr : Region.ready .any ops listed = [] := by
        unfold Region.ready
        rw [List.filter_eq_nil_iff]
        intro i hi
        have hi' : i < listed.size := by rw [hs, ← hn]; exact List.mem_range.1 hi
        have : listed.getD i true = true := by
          rw [Array.getD_eq_getD_getElem?, Array.getElem?_eq_getElem hi']
          cases hv : listed[i] with
          | true => rfl
          | false =>
            exfalso
            have : false ∈ listed.toList := by rw [← hv]; simp
            have := List.count_pos_iff.2 this
            omega
        rw [this]; simp
      exact ⟨hr, done vals w hb fun i hi => hP i hi (all_listed hn hacy hs hr i hi)⟩
    | succ fuel ih =>
      intro listed vals w hs hc hb hP
      refine ⟨fun hr => done vals w hb fun i hi => hP i hi (all_listed hn hacy hs hr i hi), fun i hi => ?_⟩
      unfold Region.ready at hi
      rw [List.mem_filter, List.mem_range] at hi
      obtain ⟨hin, hi2⟩ := hi
      obtain ⟨o, ho⟩ : ∃ o, ops[i]? = some o := ⟨ops[i], Array.getElem?_eq_getElem hin⟩
      rw [ho] at hi2
      simp only [Option.map_some, Option.getD_some, Bool.and_eq_true, Bool.not_eq_true'] at hi2
      obtain ⟨hu, hdep⟩ := hi2
      rw [Array.all_eq_true'] at hdep
      have hget : listed.toList[i]? = some false := by
        rw [Array.getD_eq_getD_getElem?, Array.getElem?_eq_getElem (by omega)] at hu
        rw [Array.getElem?_toList, Array.getElem?_eq_getElem (by omega)]
        exact congrArg some hu
      have hdeps : ∀ e, e ∈ o.after.toList → Region.binds .any e = true → Pp e.on (vals e.on) w := fun e he hbd => by
        have := hdep e (Array.mem_toList_iff.1 he)
        rw [hbd] at this
        have hlt := hacy i o ho e he hbd
        exact hP e.on (by omega) (by simpa using this)
      have hnext : ∀ v w', Below w.heap.size w w' → Pp i v w' → wpAny P .any ops Q fuel (listed.setIfInBounds i true) ((frame vals).put o.dst v) w' := fun v w' hb' hPi => by
        rw [hput i o vals v ho]
        refine ih _ _ _ (by simpa using hs) ?_ (hb.trans (hb'.mono hb.size)) fun j hj hl => ?_
        · rw [Array.toList_setIfInBounds]
          have := count_set listed.toList i hget
          omega
        · by_cases e : j = i
          · subst e; rw [if_pos rfl]; exact hPi
          · rw [if_neg e]
            refine mono j _ w w' hb (hP j hj ?_) hb'
            rw [Array.getD_eq_getD_getElem?, Array.getElem?_setIfInBounds, if_neg (fun h => e h.symm)] at hl
            rw [Array.getD_eq_getD_getElem?]; exact hl
      have hst := step i o vals w ho hb hdeps
      unfold wpOp
      rw [ho]
      dsimp only
      by_cases hw : Region.wanted o (yielded ops (frame vals).tmps) = true
      · rw [if_pos hw] at hst ⊢
        exact .inl (Oper.wp_mono (fun a' w' h => by obtain ⟨v, rfl, h1, h2⟩ := h; exact hnext v w' h1 h2) hst)
      · rw [if_neg hw] at hst ⊢
        obtain ⟨v, h0, h1, h2⟩ := hst
        rw [h0]; exact hnext v w h1 h2
  refine wp_region_any hm ?_
  refine key ops.size _ vals0 _ (by simp [hn]) ?_ (Below.refl X.heap.size X).drew (fun i hi hl => ?_)
  · simp
  · simp [Array.getD_eq_getD_getElem?, Array.getElem?_replicate, hn, hi] at hl
/-- No operation waits for a later one. -/
def acyB (ops : Array Oper) : Bool := (List.range ops.size).all fun i => match ops[i]? with
  | none => true
  | some o => o.after.all fun e => !Region.binds .any e || decide (e.on < i)
theorem acy_of (h : acyB ops = true) : ∀ i o, ops[i]? = some o → ∀ e ∈ o.after.toList, Region.binds .any e = true → e.on < i := by
  intro i o ho e he hb
  have hi := (Array.getElem?_eq_some_iff.1 ho).1
  have h1 := List.all_eq_true.1 h i (List.mem_range.2 hi)
  rw [ho] at h1
  dsimp only at h1
  rw [Array.all_eq_true'] at h1
  have h2 := h1 e (Array.mem_toList_iff.1 he)
  rw [hb] at h2
  simpa using h2
/-- A frame whose slots hold given values (idx: which one a slot holds). -/
def mapI (idx : Nat → Option Nat) (vals : Nat → Value) : Nat → List Value → List Value
  | _, [] => []
  | k, v :: l => (match idx k with | some i => vals i | none => v) :: mapI idx vals (k + 1) l
def fr (a0 : Act) (idx : Nat → Option Nat) (vals : Nat → Value) : Act := ⟨(mapI idx vals 0 a0.tmps.toList).toArray, a0.defers⟩
theorem mapI_get (idx : Nat → Option Nat) (vals : Nat → Value) : ∀ (l : List Value) (k j : Nat), (mapI idx vals k l)[j]? = (l[j]?).map fun v => match idx (k + j) with | some i => vals i | none => v
  | [], k, j => by simp [mapI]
  | v :: l, k, 0 => by simp [mapI]
  | v :: l, k, j + 1 => by
    rw [mapI]
    simp only [List.getElem?_cons_succ]
    rw [mapI_get idx vals l (k + 1) j, show k + 1 + j = k + (j + 1) by omega]
theorem fr_get (a0 : Act) (idx : Nat → Option Nat) (vals : Nat → Value) (j : Nat) : (fr a0 idx vals).tmps[j]? = (a0.tmps[j]?).map fun v => match idx j with | some i => vals i | none => v := by
  unfold fr
  rw [List.getElem?_toArray, mapI_get, Nat.zero_add]
  simp
theorem fr_eval {a0 : Act} {idx : Nat → Option Nat} {vals : Nat → Value} {j i : Nat} (hj : idx j = some i) (hl : j < a0.tmps.size) : (fr a0 idx vals).tmps.getD j undef = vals i := by
  rw [Array.getD_eq_getD_getElem?, fr_get, Array.getElem?_eq_getElem hl, hj]; rfl
theorem fr_eval0 {a0 : Act} {idx : Nat → Option Nat} {vals : Nat → Value} {j : Nat} (hj : idx j = none) : (fr a0 idx vals).eval (.tmp j) = a0.eval (.tmp j) := by
  show (fr a0 idx vals).tmps.getD j undef = a0.tmps.getD j undef
  rw [Array.getD_eq_getD_getElem?, fr_get, hj, Array.getD_eq_getD_getElem?]
  cases a0.tmps[j]? <;> rfl
theorem fr_put {a0 : Act} {idx : Nat → Option Nat} {vals : Nat → Value} {j i : Nat} (v : Value) (hj : idx j = some i) (hi : ∀ m, idx m = some i → m = j) : (fr a0 idx vals).put (some j) v = fr a0 idx (fun m => if m = i then v else vals m) := by
  have : ((fr a0 idx vals).put (some j) v).tmps = (fr a0 idx (fun m => if m = i then v else vals m)).tmps := by
    apply Array.ext_getElem?
    intro m
    show ((fr a0 idx vals).tmps.setIfInBounds j v)[m]? = _
    rw [Array.getElem?_setIfInBounds, fr_get, fr_get]
    by_cases e : j = m
    · subst e
      rw [if_pos rfl, hj]
      have hs : (fr a0 idx vals).tmps.size = a0.tmps.size := by
        have : ∀ (l : List Value) k, (mapI idx vals k l).length = l.length := by
          intro l; induction l with
          | nil => intro k; rfl
          | cons v l ih => intro k; rw [mapI, List.length_cons, ih, List.length_cons]
        show (mapI idx vals 0 a0.tmps.toList).toArray.size = _
        simp [this]
      rw [hs]
      split
      · rename_i h; rw [Array.getElem?_eq_getElem h]; simp
      · rename_i h; rw [Array.getElem?_eq_none (by omega)]; rfl
    · rw [if_neg e]
      congr 1
      funext u
      cases hm : idx m with
      | none => rfl
      | some k =>
        dsimp only
        by_cases e2 : k = i
        · subst e2; exact absurd (hi m hm).symm e
        · rw [if_neg e2]
  show Act.put _ _ _ = _
  unfold Act.put at this ⊢
  simp only at this ⊢
  rw [this]
  rfl
theorem fr_init {a0 : Act} {idx : Nat → Option Nat} {vals : Nat → Value} (h : ∀ j i, idx j = some i → vals i = a0.tmps.getD j undef) : fr a0 idx vals = a0 := by
  have : (fr a0 idx vals).tmps = a0.tmps := by
    apply Array.ext_getElem?
    intro m
    rw [fr_get]
    cases hm : idx m with
    | none => simp
    | some k =>
      cases hg : a0.tmps[m]? with
      | none => rfl
      | some u => simp [h m k hm, Array.getD_eq_getD_getElem?, hg]
  have e : ∀ (b c : Act), b.tmps = c.tmps → b.defers = c.defers → b = c := by
    intro b c h1 h2; obtain ⟨t, d⟩ := b; obtain ⟨t', d'⟩ := c; simp only at h1 h2; rw [h1, h2]
  exact e _ _ this rfl
theorem region_inv_slots {id : Nat} (idx : Nat → Option Nat) (slots : List Nat) (Pp : Nat → Value → World → Prop) (X : World) (a0 : Act)
    (hslots : ∀ j i, idx j = some i → slots.getD i 0 = j) (hsz : ∀ j i, idx j = some i → j < a0.tmps.size)
    (hm : P.follows .mixedOrders = true) (hn : ops.size = n) (hacy : acyB ops = true)
    (hdst : ∀ i o, i < n → ops[i]? = some o → o.dst = some (slots.getD i 0) ∧ idx (slots.getD i 0) = some i)
    (mono : ∀ i v w w', Below X.heap.size X w → Pp i v w → Below w.heap.size w w' → Pp i v w')
    (step : ∀ i o vals w, i < n → ops[i]? = some o → Below X.heap.size X w → (∀ e, e ∈ o.after.toList → Region.binds .any e = true → Pp e.on (vals e.on) w) → (∀ j i, idx j = some i → (fr a0 idx vals).eval (.tmp j) = vals i) → (∀ j, idx j = none → (fr a0 idx vals).eval (.tmp j) = a0.eval (.tmp j)) →
      if Region.wanted o (yielded ops (fr a0 idx vals).tmps) = true then Oper.wp P o (fr a0 idx vals) w (fun a' w' => ∃ v, a' = (fr a0 idx vals).put o.dst v ∧ Below w.heap.size w w' ∧ Pp i v w') Q else (∃ v, (fr a0 idx vals).put o.dst undef = (fr a0 idx vals).put o.dst v ∧ Below w.heap.size w w ∧ Pp i v w))
    (done : ∀ vals w, Below X.heap.size X w → (∀ i, i < n → Pp i (vals i) w) → Q .normal (fr a0 idx vals) w) :
    (Code.region id ops true).wp P Q a0 X := by
  have hlt : ∀ i o, ops[i]? = some o → i < n := fun i o h => by rw [← hn]; exact (Array.getElem?_eq_some_iff.1 h).1
  have h0 : fr a0 idx (fun i => a0.tmps.getD (slots.getD i 0) undef) = a0 := fr_init fun j i h => by rw [hslots j i h]
  have := region_inv (id := id) (Q := Q) (fr a0 idx) Pp X (fun i => a0.tmps.getD (slots.getD i 0) undef) hm hn (acy_of hacy) (fun i o vals v h => by
    obtain ⟨h1, h2⟩ := hdst i o (hlt i o h) h
    rw [h1]
    exact fr_put v h2 (fun m hm' => (hslots m i hm').symm)) mono (fun i o vals w h hb hd => step i o vals w (hlt i o h) h hb hd (fun j k hj => fr_eval hj (hsz j k hj)) fun j hj => fr_eval0 hj) done
  rwa [h0] at this
end
end Go.Proofs.YtmkanjcehhbmlaaGreatDoor.Pr
end
