/-
  A region that draws its order and ends in stores: operations that nobody overtakes may be taken first under a condition S on the world; a late operation (a store) need not keep S.
  No program is named here.
-/
import Derived.Test.YthpioncehigoaaaReg
set_option linter.unusedSimpArgs false
set_option linter.unusedVariables false
namespace Go.Proofs.Ythpioncehigoaaa
open Go.RowKit

section
variable {P : Program} {ops : Array Oper} {Q : Exit → Act → World → Prop} {md : Region.Mode} {lt : Nat → Bool}

def wpM (P : Program) (md : Region.Mode) (ops : Array Oper) (Q : Exit → Act → World → Prop) (lt : Nat → Bool) : Nat → (World → Prop) → Array Bool → Act → World → Prop
  | 0, _, listed, a, w => Region.ready md ops listed = [] ∧ Q .normal a w
  | fuel + 1, S, listed, a, w =>
    (Region.ready md ops listed = [] → Q .normal a w) ∧
    ∀ i ∈ Region.ready md ops listed, wpOp P ops Q i (fun a' w' => (lt i = true ∧ wpAny P md ops Q fuel (listed.setIfInBounds i true) a' w') ∨
      (lt i = false ∧ ∃ S' : World → Prop, (∀ x, S' x → S x) ∧ S' w' ∧ wpM P md ops Q lt fuel S' (listed.setIfInBounds i true) a' w')) a w

theorem wpAny_of_M : ∀ (fuel : Nat) (S : World → Prop) (listed : Array Bool) (a : Act) (w : World), wpM P md ops Q lt fuel S listed a w → wpAny P md ops Q fuel listed a w
  | 0, _, _, _, _, h => h
  | fuel + 1, _, _, _, _, h => ⟨h.1, fun i hi => wpOp_mono (fun a' w' h' => by
      rcases h' with ⟨_, h'⟩ | ⟨_, S', _, _, h'⟩
      · exact h'
      · exact wpAny_of_M fuel S' _ a' w' h') (h.2 i hi)⟩
/-- Each late operation is behind number i. -/
def lateB (md : Region.Mode) (ops : Array Oper) (lt : Nat → Bool) (i : Nat) : Bool :=
  (List.range ops.size).all fun j => !lt j || j == i || match ops[j]? with
    | some oj => oj.after.any (fun e => Region.binds md e && e.on == i)
    | none => true
theorem lateB_spec {i j : Nat} {oj : Oper} (h : lateB md ops lt i = true) (hj : ops[j]? = some oj) (hl : lt j = true) (hne : j ≠ i) : ∃ e ∈ oj.after, Region.binds md e = true ∧ e.on = i := by
  simp only [lateB, List.all_eq_true, List.mem_range] at h
  have h1 := h j (Array.getElem?_eq_some_iff.1 hj).1
  simp only [hl, hj, Bool.not_true, Bool.false_or, Bool.or_eq_true, beq_iff_eq, hne, false_or] at h1
  obtain ⟨e, he, hb⟩ := Array.any_eq_true'.1 h1
  simp only [Bool.and_eq_true, beq_iff_eq] at hb
  exact ⟨e, he, hb.1, hb.2⟩

theorem wpM_first {i : Nat} {oi : Oper} {v : Value} (hi : ops[i]? = some oi) (hsel : ∀ (j : Nat) (o : Oper) cs b, ops[j]? = some o → o.op ≠ .select cs b)
    (hQ : ∀ c a w, Q (.panic c) (a.put oi.dst v) w → Q (.panic c) a w) :
    ∀ (fuel : Nat) (S : World → Prop) (listed : Array Bool) (a : Act) (w : World),
      (∀ j oj, ops[j]? = some oj → j ≠ i → listed.getD j true = false → (∀ e ∈ oj.after, Region.binds md e = true → e.on ≠ i) → oi.apart ops oj = true) →
      i ∈ Region.ready md ops listed → ((lateB md ops lt i = true ∧ YieldsIf P ops S oi v a) ∨ Yields P ops oi v a) → S w →
      wpM P md ops Q lt fuel S (listed.setIfInBounds i true) (a.put oi.dst v) w → lt i = false → wpM P md ops Q lt (fuel + 1) S listed a w := by
  intro fuel
  induction fuel with
  | zero =>
    intro S listed a w _ hr hy hS H hli
    refine ⟨fun h => (by rw [h] at hr; cases hr), fun j hj => ?_⟩
    by_cases hji : j = i
    · subst hji
      have hy' : YieldsIf P ops S oi v a := by
        rcases hy with ⟨_, h⟩ | h
        · exact h
        · exact h.yieldsIf
      exact hy'.wpOp hi hS (.inr ⟨hli, S, fun _ h => h, hS, H⟩)
    · have := ready_mono hj hji
      rw [H.1] at this
      cases this
  | succ fuel ih =>
    intro S listed a w hfree hr hy hS H hli
    have hyS : YieldsIf P ops S oi v a := by
      rcases hy with ⟨_, h⟩ | h
      · exact h
      · exact h.yieldsIf
    refine ⟨fun h => (by rw [h] at hr; cases hr), fun j hj => ?_⟩
    by_cases hji : j = i
    · subst hji; exact hyS.wpOp hi hS (.inr ⟨hli, S, fun _ h => h, hS, H⟩)
    · have h1 := H.2 j (ready_mono hj hji)
      obtain ⟨hjun, oj, hoj, hall⟩ := mem_ready.1 hj
      have hnot : ∀ e ∈ oj.after, Region.binds md e = true → e.on ≠ i := fun e he hb heq => by
        have h1 := hall e he hb
        have h0 := (mem_ready.1 hr).1
        rw [heq] at h1
        rcases Nat.lt_or_ge i listed.size with h' | h'
        · simp [h'] at h0 h1; rw [h0] at h1; cases h1
        · simp [Array.getElem?_eq_none h'] at h1
      have hfree' : ∀ k ok, ops[k]? = some ok → k ≠ i → (listed.setIfInBounds j true).getD k true = false →
          (∀ e ∈ ok.after, Region.binds md e = true → e.on ≠ i) → oi.apart ops ok = true := fun k ok hk hki hun hno => by
        refine hfree k ok hk hki ?_ hno
        by_cases hjk : j = k
        · subst hjk; exact hjun
        · rw [getD_set_ne true hjk] at hun; exact hun
      cases hlj : lt j
      · simp only [hlj, Bool.false_eq_true, false_and, false_or, true_and] at h1 ⊢
        rcases hy with ⟨hlb, hy⟩ | hy
        · have h2 := wpOp_putIf hoj (hfree j oj hoj hji hjun hnot) (fun cs b => hsel i oi cs b hi) (fun cs b => hsel j oj cs b hoj) hQ hy h1
          refine wpOp_mono (fun a' w' h3 => ?_) h2
          obtain ⟨hy', S', hSS, hS', H'⟩ := h3
          refine ⟨S', hSS, hS', ih S' (listed.setIfInBounds j true) a' w' hfree' (ready_mono hr (Ne.symm hji)) (.inl ⟨hlb, ?_⟩) hS' ?_ hli⟩
          · rcases hy' with ⟨k1, k2⟩ | k
            · exact .inl ⟨k1, fun x hx => k2 x (hSS x hx)⟩
            · exact .inr k
          · rw [Array.setIfInBounds_comm _ _ hji]
            exact H'
        · have h2 := wpOp_put hoj (hfree j oj hoj hji hjun hnot) (fun cs b => hsel i oi cs b hi) (fun cs b => hsel j oj cs b hoj) hQ hy h1
          refine wpOp_mono (fun a' w' h3 => ?_) h2
          obtain ⟨hy', S', hSS, hS', H'⟩ := h3
          refine ⟨S', hSS, hS', ih S' (listed.setIfInBounds j true) a' w' hfree' (ready_mono hr (Ne.symm hji)) (.inr hy') hS' ?_ hli⟩
          rw [Array.setIfInBounds_comm _ _ hji]
          exact H'
      · simp only [hlj, Bool.true_eq_false, false_and, or_false, true_and] at h1 ⊢
        rcases hy with ⟨hlb, hy⟩ | hy
        · obtain ⟨e, he, hb, hon⟩ := lateB_spec hlb hoj hlj hji
          exact absurd hon (hnot e he hb)
        · have h2 := wpOp_put hoj (hfree j oj hoj hji hjun hnot) (fun cs b => hsel i oi cs b hi) (fun cs b => hsel j oj cs b hoj) hQ hy h1
          refine wpOp_mono (fun a' w' h3 => ?_) h2
          obtain ⟨hy', H'⟩ := h3
          refine wpAny_first hi hsel hQ fuel (listed.setIfInBounds j true) a' w' hfree' (ready_mono hr (Ne.symm hji)) hy' ?_
          rw [Array.setIfInBounds_comm _ _ hji]
          exact H'

theorem wpM_take {i : Nat} {oi : Oper} {v : Value} {fuel : Nat} {S : World → Prop} {listed : Array Bool} {a : Act} {w : World} (hi : ops[i]? = some oi)
    (hs : Region.noSelect ops = true) (hf : Region.free md ops listed i = true) (hr : (Region.ready md ops listed).contains i = true)
    (hQ : ∀ c a w, Q (.panic c) (a.put oi.dst v) w → Q (.panic c) a w) (hS : S w) (hli : lt i = false) (hlb : lateB md ops lt i = true) (hy : YieldsIf P ops S oi v a)
    (h : wpM P md ops Q lt fuel S (listed.setIfInBounds i true) (a.put oi.dst v) w) : wpM P md ops Q lt (fuel + 1) S listed a w :=
  wpM_first hi (Region.noSelect_spec hs) hQ fuel S listed a w (Region.free_spec hi hf) (by simpa using hr) (.inl ⟨hlb, hy⟩) hS h hli
theorem wpM_takeU {i : Nat} {oi : Oper} {v : Value} {fuel : Nat} {S : World → Prop} {listed : Array Bool} {a : Act} {w : World} (hi : ops[i]? = some oi)
    (hs : Region.noSelect ops = true) (hf : Region.free md ops listed i = true) (hr : (Region.ready md ops listed).contains i = true)
    (hQ : ∀ c a w, Q (.panic c) (a.put oi.dst v) w → Q (.panic c) a w) (hS : S w) (hli : lt i = false) (hy : Yields P ops oi v a)
    (h : wpM P md ops Q lt fuel S (listed.setIfInBounds i true) (a.put oi.dst v) w) : wpM P md ops Q lt (fuel + 1) S listed a w :=
  wpM_first hi (Region.noSelect_spec hs) hQ fuel S listed a w (Region.free_spec hi hf) (by simpa using hr) (.inr hy) hS h hli
/-- The only one that may come up, not a late one. -/
theorem wpM_one {i : Nat} {oi : Oper} {fuel : Nat} {S : World → Prop} {listed : Array Bool} {a : Act} {w : World} (hr : Region.ready md ops listed = [i]) (hi : ops[i]? = some oi) (hli : lt i = false)
    (h : ∀ K : Act → World → Prop, (∀ (S' : World → Prop) a' w', (∀ x, S' x → S x) → S' w' → wpM P md ops Q lt fuel S' (listed.setIfInBounds i true) a' w' → K a' w') →
      if Region.wanted oi (yielded ops a.tmps) = true then oi.wp P a w K Q else K (a.put oi.dst undef) w) : wpM P md ops Q lt (fuel + 1) S listed a w := by
  refine ⟨(fun h0 => by rw [h0] at hr; cases hr), fun j hj => ?_⟩
  rw [hr] at hj
  obtain rfl : j = i := by simpa using hj
  have h1 := h (fun a' w' => (lt j = true ∧ wpAny P md ops Q fuel (listed.setIfInBounds j true) a' w') ∨ (lt j = false ∧ ∃ S' : World → Prop, (∀ x, S' x → S x) ∧ S' w' ∧ wpM P md ops Q lt fuel S' (listed.setIfInBounds j true) a' w'))
    (fun S' a' w' k1 k2 k3 => .inr ⟨hli, S', k1, k2, k3⟩)
  unfold wpOp
  simp only [hi]
  split
  · rename_i hw
    rw [if_pos hw] at h1
    exact .inl h1
  · rename_i hw
    rw [if_neg hw] at h1
    exact h1
/-- The only one that may come up is a late one: behind it no condition stands. -/
theorem wpM_late {i : Nat} {oi : Oper} {fuel : Nat} {S : World → Prop} {listed : Array Bool} {a : Act} {w : World} (hr : Region.ready md ops listed = [i]) (hi : ops[i]? = some oi) (hli : lt i = true)
    (h : ∀ K : Act → World → Prop, (∀ a' w', wpAny P md ops Q fuel (listed.setIfInBounds i true) a' w' → K a' w') →
      if Region.wanted oi (yielded ops a.tmps) = true then oi.wp P a w K Q else K (a.put oi.dst undef) w) : wpM P md ops Q lt (fuel + 1) S listed a w := by
  refine ⟨(fun h0 => by rw [h0] at hr; cases hr), fun j hj => ?_⟩
  rw [hr] at hj
  obtain rfl : j = i := by simpa using hj
  have h1 := h (fun a' w' => (lt j = true ∧ wpAny P md ops Q fuel (listed.setIfInBounds j true) a' w') ∨ (lt j = false ∧ ∃ S' : World → Prop, (∀ x, S' x → S x) ∧ S' w' ∧ wpM P md ops Q lt fuel S' (listed.setIfInBounds j true) a' w'))
    (fun a' w' k => .inl ⟨hli, k⟩)
  unfold wpOp
  simp only [hi]
  split
  · rename_i hw
    rw [if_pos hw] at h1
    exact .inl h1
  · rename_i hw
    rw [if_neg hw] at h1
    exact h1
/-- Two may come up. -/
theorem wpG_two {i j : Nat} {oi oj : Oper} {fuel : Nat} {S : World → Prop} {listed : Array Bool} {a : Act} {w : World} (hr : Region.ready md ops listed = [i, j]) (hi : ops[i]? = some oi) (hj : ops[j]? = some oj)
    (h1 : ∀ K : Act → World → Prop, (∀ (S' : World → Prop) a' w', (∀ x, S' x → S x) → S' w' → wpG P md ops Q fuel S' (listed.setIfInBounds i true) a' w' → K a' w') →
      if Region.wanted oi (yielded ops a.tmps) = true then oi.wp P a w K Q else K (a.put oi.dst undef) w)
    (h2 : ∀ K : Act → World → Prop, (∀ (S' : World → Prop) a' w', (∀ x, S' x → S x) → S' w' → wpG P md ops Q fuel S' (listed.setIfInBounds j true) a' w' → K a' w') →
      if Region.wanted oj (yielded ops a.tmps) = true then oj.wp P a w K Q else K (a.put oj.dst undef) w) : wpG P md ops Q (fuel + 1) S listed a w := by
  refine ⟨(fun h0 => by rw [h0] at hr; cases hr), fun k hk => ?_⟩
  rw [hr] at hk
  have key : ∀ (k : Nat) (ok : Oper), ops[k]? = some ok → (∀ K : Act → World → Prop, (∀ (S' : World → Prop) a' w', (∀ x, S' x → S x) → S' w' → wpG P md ops Q fuel S' (listed.setIfInBounds k true) a' w' → K a' w') →
      if Region.wanted ok (yielded ops a.tmps) = true then ok.wp P a w K Q else K (a.put ok.dst undef) w) →
      wpOp P ops Q k (fun a' w' => ∃ S' : World → Prop, (∀ x, S' x → S x) ∧ S' w' ∧ wpG P md ops Q fuel S' (listed.setIfInBounds k true) a' w') a w := by
    intro k ok hk h
    have h1 := h (fun a' w' => ∃ S' : World → Prop, (∀ x, S' x → S x) ∧ S' w' ∧ wpG P md ops Q fuel S' (listed.setIfInBounds k true) a' w') (fun S' a' w' k1 k2 k3 => ⟨S', k1, k2, k3⟩)
    unfold wpOp
    simp only [hk]
    split
    · rename_i hw
      rw [if_pos hw] at h1
      exact .inl h1
    · rename_i hw
      rw [if_neg hw] at h1
      exact h1
  rcases List.mem_cons.1 hk with rfl | hk
  · exact key _ _ hi h1
  · obtain rfl : k = j := by simpa using hk
    exact key _ _ hj h2
theorem wpM_two {i j : Nat} {oi oj : Oper} {fuel : Nat} {S : World → Prop} {listed : Array Bool} {a : Act} {w : World} (hr : Region.ready md ops listed = [i, j]) (hi : ops[i]? = some oi) (hj : ops[j]? = some oj) (hli : lt i = false) (hlj : lt j = false)
    (h1 : ∀ K : Act → World → Prop, (∀ (S' : World → Prop) a' w', (∀ x, S' x → S x) → S' w' → wpM P md ops Q lt fuel S' (listed.setIfInBounds i true) a' w' → K a' w') →
      if Region.wanted oi (yielded ops a.tmps) = true then oi.wp P a w K Q else K (a.put oi.dst undef) w)
    (h2 : ∀ K : Act → World → Prop, (∀ (S' : World → Prop) a' w', (∀ x, S' x → S x) → S' w' → wpM P md ops Q lt fuel S' (listed.setIfInBounds j true) a' w' → K a' w') →
      if Region.wanted oj (yielded ops a.tmps) = true then oj.wp P a w K Q else K (a.put oj.dst undef) w) : wpM P md ops Q lt (fuel + 1) S listed a w := by
  refine ⟨(fun h0 => by rw [h0] at hr; cases hr), fun k hk => ?_⟩
  rw [hr] at hk
  have key : ∀ (k : Nat) (ok : Oper), ops[k]? = some ok → lt k = false → (∀ K : Act → World → Prop, (∀ (S' : World → Prop) a' w', (∀ x, S' x → S x) → S' w' → wpM P md ops Q lt fuel S' (listed.setIfInBounds k true) a' w' → K a' w') →
      if Region.wanted ok (yielded ops a.tmps) = true then ok.wp P a w K Q else K (a.put ok.dst undef) w) →
      wpOp P ops Q k (fun a' w' => (lt k = true ∧ wpAny P md ops Q fuel (listed.setIfInBounds k true) a' w') ∨ (lt k = false ∧ ∃ S' : World → Prop, (∀ x, S' x → S x) ∧ S' w' ∧ wpM P md ops Q lt fuel S' (listed.setIfInBounds k true) a' w')) a w := by
    intro k ok hk hl h
    have h1 := h (fun a' w' => (lt k = true ∧ wpAny P md ops Q fuel (listed.setIfInBounds k true) a' w') ∨ (lt k = false ∧ ∃ S' : World → Prop, (∀ x, S' x → S x) ∧ S' w' ∧ wpM P md ops Q lt fuel S' (listed.setIfInBounds k true) a' w')) (fun S' a' w' k1 k2 k3 => .inr ⟨hl, S', k1, k2, k3⟩)
    unfold wpOp
    simp only [hk]
    split
    · rename_i hw
      rw [if_pos hw] at h1
      exact .inl h1
    · rename_i hw
      rw [if_neg hw] at h1
      exact h1
  rcases List.mem_cons.1 hk with rfl | hk
  · exact key _ _ hi hli h1
  · obtain rfl : k = j := by simpa using hk
    exact key _ _ hj hlj h2
theorem wpAny_one {i : Nat} {oi : Oper} {fuel : Nat} {listed : Array Bool} {a : Act} {w : World} (hr : Region.ready md ops listed = [i]) (hi : ops[i]? = some oi)
    (h : ∀ K : Act → World → Prop, (∀ a' w', wpAny P md ops Q fuel (listed.setIfInBounds i true) a' w' → K a' w') →
      if Region.wanted oi (yielded ops a.tmps) = true then oi.wp P a w K Q else K (a.put oi.dst undef) w) : wpAny P md ops Q (fuel + 1) listed a w := by
  refine ⟨(fun h0 => by rw [h0] at hr; cases hr), fun j hj => ?_⟩
  rw [hr] at hj
  obtain rfl : j = i := by simpa using hj
  have h1 := h (wpAny P md ops Q fuel (listed.setIfInBounds j true)) (fun a' w' k => k)
  unfold wpOp
  simp only [hi]
  split
  · rename_i hw
    rw [if_pos hw] at h1
    exact .inl h1
  · rename_i hw
    rw [if_neg hw] at h1
    exact h1
theorem wp_region_F {id : Nat} {a : Act} {w : World} (hm : P.follows .mixedOrders = true)
    (h : wpG P .any ops Q ops.size (From w.drew) (Array.replicate ops.size false) a w.drew) : (Code.region id ops true).wp P Q a w :=
  wp_region_G (From w.drew) hm h
theorem wp_region_MF {id : Nat} {a : Act} {w : World} (lt : Nat → Bool) (hm : P.follows .mixedOrders = true)
    (h : wpM P .any ops Q lt ops.size (From w.drew) (Array.replicate ops.size false) a w.drew) : (Code.region id ops true).wp P Q a w :=
  wp_region_any hm (wpAny_of_M _ _ _ _ _ h)
theorem wp_region_M {id : Nat} {a : Act} {w : World} (lt : Nat → Bool) (S : World → Prop) (hm : P.follows .mixedOrders = true)
    (h : wpM P .any ops Q lt ops.size S (Array.replicate ops.size false) a w.drew) : (Code.region id ops true).wp P Q a w :=
  wp_region_any hm (wpAny_of_M _ _ _ _ _ h)
end
end Go.Proofs.Ythpioncehigoaaa
