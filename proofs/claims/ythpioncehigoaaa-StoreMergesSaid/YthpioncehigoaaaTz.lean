/-
  A region that draws its order, walked along a tree of schedules: where two may come up (neither writes what stood at its beginning), both are walked.
  What only reads is read in every world in which what stood at the beginning stands. No program is named here.
-/
import Derived.Test.YthpioncehigoaaaTy
set_option linter.unusedSimpArgs false
set_option linter.unusedVariables false
namespace Go.Proofs.Ythpioncehigoaaa
open Go.RowKit

inductive STr where
  | nil
  | op (i m : Nat) (r : STr)
  | two (i j : Nat) (r s : STr)
  | three (i j k : Nat) (r s t : STr)
def STr.len : STr → Nat
  | .nil => 0
  | .op _ _ r => r.len + 1
  | .two _ _ r s => max r.len s.len + 1
  | .three _ _ _ r s t => max r.len (max s.len t.len) + 1

section
variable {P : Program} {ops : Array Oper} {Q : Exit → Act → World → Prop} {md : Region.Mode} {lt : Nat → Bool} {W : World}

def schedS (md : Region.Mode) (ops : Array Oper) (lt : Nat → Bool) : Bool → STr → Array Bool → Bool
  | _, .nil, listed => (Region.ready md ops listed).isEmpty
  | e, .op i m rest, listed =>
    (match m with
      | 0 => e && (Region.ready md ops listed).contains i && Region.free md ops listed i && lateB md ops lt i && !lt i
      | 1 => (Region.ready md ops listed).contains i && Region.free md ops listed i && !lt i
      | 2 => e && Region.ready md ops listed == [i] && !lt i
      | 3 => e && Region.ready md ops listed == [i] && lt i
      | _ => !e && Region.ready md ops listed == [i]) && schedS md ops lt (e && decide (m < 3)) rest (listed.setIfInBounds i true)
  | e, .two i j r s, listed => e && Region.ready md ops listed == [i, j] && !lt i && !lt j && schedS md ops lt e r (listed.setIfInBounds i true) && schedS md ops lt e s (listed.setIfInBounds j true)
  | e, .three i j k r s t, listed => e && Region.ready md ops listed == [i, j, k] && !lt i && !lt j && !lt k && schedS md ops lt e r (listed.setIfInBounds i true) && schedS md ops lt e s (listed.setIfInBounds j true) && schedS md ops lt e t (listed.setIfInBounds k true)

def wpS (P : Program) (ops : Array Oper) (Q : Exit → Act → World → Prop) (W : World) : STr → Act → World → Prop
  | .nil, a, w => Q .normal a w
  | .op i m rest, a, w => ∃ o, ops[i]? = some o ∧
    if Region.wanted o (yielded ops a.tmps) = true then
      (match m with
       | 0 => ∃ v, (∀ x, From W x → (execOp a.eval o).run P x = .ok (.value v) x) ∧ wpS P ops Q W rest (a.put o.dst v) w
       | 1 => ∃ v, (∀ x, (execOp a.eval o).run P x = .ok (.value v) x) ∧ wpS P ops Q W rest (a.put o.dst v) w
       | 2 => o.wp P a w (fun a' w' => FromT W w' (wpS P ops Q W rest a' w')) Q
       | _ => o.wp P a w (fun a' w' => wpS P ops Q W rest a' w') Q)
    else wpS P ops Q W rest (a.put o.dst undef) w
  | .two i j r s, a, w =>
    (∃ o, ops[i]? = some o ∧ if Region.wanted o (yielded ops a.tmps) = true then o.wp P a w (fun a' w' => FromT W w' (wpS P ops Q W r a' w')) Q else wpS P ops Q W r (a.put o.dst undef) w) ∧
    (∃ o, ops[j]? = some o ∧ if Region.wanted o (yielded ops a.tmps) = true then o.wp P a w (fun a' w' => FromT W w' (wpS P ops Q W s a' w')) Q else wpS P ops Q W s (a.put o.dst undef) w)
  | .three i j k r s t, a, w =>
    (∃ o, ops[i]? = some o ∧ if Region.wanted o (yielded ops a.tmps) = true then o.wp P a w (fun a' w' => FromT W w' (wpS P ops Q W r a' w')) Q else wpS P ops Q W r (a.put o.dst undef) w) ∧
    (∃ o, ops[j]? = some o ∧ if Region.wanted o (yielded ops a.tmps) = true then o.wp P a w (fun a' w' => FromT W w' (wpS P ops Q W s a' w')) Q else wpS P ops Q W s (a.put o.dst undef) w) ∧
    (∃ o, ops[k]? = some o ∧ if Region.wanted o (yielded ops a.tmps) = true then o.wp P a w (fun a' w' => FromT W w' (wpS P ops Q W t a' w')) Q else wpS P ops Q W t (a.put o.dst undef) w)

theorem wpAny_of_S (hs : Region.noSelect ops = true) (hQ : ∀ c (a : Act) (t : Array Value) w, Q (.panic c) { a with tmps := t } w → Q (.panic c) a w) :
    ∀ (tr : STr) (fuel : Nat) (listed : Array Bool) (a : Act) (w : World), tr.len ≤ fuel → schedS md ops lt false tr listed = true → wpS P ops Q W tr a w → wpAny P md ops Q fuel listed a w := by
  intro tr
  induction tr with
  | nil =>
    intro fuel listed a w _ hb h
    exact wpAny_doneT (by simpa [schedS] using hb) h fuel
  | two i j r s _ _ =>
    intro fuel listed a w _ hb h
    simp [schedS] at hb
  | three i j k r s t _ _ _ =>
    intro fuel listed a w _ hb h
    simp [schedS] at hb
  | op i m rest ih =>
    intro fuel listed a w hf hb h
    obtain ⟨fuel, rfl⟩ : ∃ k, fuel = k + 1 := ⟨fuel - 1, by simp [STr.len] at hf; omega⟩
    simp only [STr.len, Nat.add_le_add_iff_right] at hf
    obtain ⟨o, ho, h⟩ := h
    unfold schedS at hb
    match m, h, hb with
    | 0, h, hb => simp at hb
    | 2, h, hb => simp at hb
    | 3, h, hb => simp at hb
    | 1, h, hb =>
      simp only [Bool.and_eq_true, Bool.false_and] at hb
      obtain ⟨⟨⟨hr, hfr⟩, _⟩, hb⟩ := hb
      by_cases hw : Region.wanted o (yielded ops a.tmps) = true
      · rw [if_pos hw] at h
        obtain ⟨v, hv, h⟩ := h
        exact wpAny_first ho (Region.noSelect_spec hs) (hput hQ o _) fuel listed a w (Region.free_spec ho hfr) (by simpa using hr) (.inl ⟨hw, hv⟩) (ih fuel _ _ _ hf hb h)
      · rw [if_neg hw] at h
        exact wpAny_first ho (Region.noSelect_spec hs) (hput hQ o _) fuel listed a w (Region.free_spec ho hfr) (by simpa using hr) (.inr ⟨by simpa using hw, rfl⟩) (ih fuel _ _ _ hf hb h)
    | m + 4, h, hb =>
      simp only [Bool.and_eq_true, Bool.false_and, beq_iff_eq] at hb
      obtain ⟨⟨_, hr⟩, hb⟩ := hb
      refine wpAny_one hr ho fun K hK => ?_
      by_cases hw : Region.wanted o (yielded ops a.tmps) = true
      · rw [if_pos hw] at h ⊢
        exact Oper.wp_mono (fun a' w' h' => hK _ _ (ih fuel _ _ _ hf hb h')) h
      · rw [if_neg hw] at h ⊢
        exact hK _ _ (ih fuel _ _ _ hf hb h)

theorem wpM_three {i j k : Nat} {oi oj ok : Oper} {fuel : Nat} {S : World → Prop} {listed : Array Bool} {a : Act} {w : World} (hr : Region.ready md ops listed = [i, j, k]) (hi : ops[i]? = some oi) (hj : ops[j]? = some oj) (hk : ops[k]? = some ok) (hli : lt i = false) (hlj : lt j = false) (hlk : lt k = false)
    (h1 : ∀ K : Act → World → Prop, (∀ (S' : World → Prop) a' w', (∀ x, S' x → S x) → S' w' → wpM P md ops Q lt fuel S' (listed.setIfInBounds i true) a' w' → K a' w') →
      if Region.wanted oi (yielded ops a.tmps) = true then oi.wp P a w K Q else K (a.put oi.dst undef) w)
    (h2 : ∀ K : Act → World → Prop, (∀ (S' : World → Prop) a' w', (∀ x, S' x → S x) → S' w' → wpM P md ops Q lt fuel S' (listed.setIfInBounds j true) a' w' → K a' w') →
      if Region.wanted oj (yielded ops a.tmps) = true then oj.wp P a w K Q else K (a.put oj.dst undef) w)
    (h3 : ∀ K : Act → World → Prop, (∀ (S' : World → Prop) a' w', (∀ x, S' x → S x) → S' w' → wpM P md ops Q lt fuel S' (listed.setIfInBounds k true) a' w' → K a' w') →
      if Region.wanted ok (yielded ops a.tmps) = true then ok.wp P a w K Q else K (a.put ok.dst undef) w) : wpM P md ops Q lt (fuel + 1) S listed a w := by
  refine ⟨(fun h0 => by rw [h0] at hr; cases hr), fun m hm => ?_⟩
  rw [hr] at hm
  have key : ∀ (k : Nat) (ok : Oper), ops[k]? = some ok → lt k = false → (∀ K : Act → World → Prop, (∀ (S' : World → Prop) a' w', (∀ x, S' x → S x) → S' w' → wpM P md ops Q lt fuel S' (listed.setIfInBounds k true) a' w' → K a' w') →
      if Region.wanted ok (yielded ops a.tmps) = true then ok.wp P a w K Q else K (a.put ok.dst undef) w) →
      wpOp P ops Q k (fun a' w' => (lt k = true ∧ wpAny P md ops Q fuel (listed.setIfInBounds k true) a' w') ∨ (lt k = false ∧ ∃ S' : World → Prop, (∀ x, S' x → S x) ∧ S' w' ∧ wpM P md ops Q lt fuel S' (listed.setIfInBounds k true) a' w')) a w := by
    intro k ok hk hl h
    have h1 := h (fun a' w' => (lt k = true ∧ wpAny P md ops Q fuel (listed.setIfInBounds k true) a' w') ∨ (lt k = false ∧ ∃ S' : World → Prop, (∀ x, S' x → S x) ∧ S' w' ∧ wpM P md ops Q lt fuel S' (listed.setIfInBounds k true) a' w')) (fun S' a' w' k1 k2 k3 => .inr ⟨hl, S', k1, k2, k3⟩)
    unfold wpOp
    simp only [hk]
    split
    · rename_i hw
      rw [if_pos hw] at h1
      exact .inl h1
    · rename_i hw
      rw [if_neg hw] at h1
      exact h1
  rcases List.mem_cons.1 hm with rfl | hm
  · exact key _ _ hi hli h1
  · rcases List.mem_cons.1 hm with rfl | hm
    · exact key _ _ hj hlj h2
    · obtain rfl := List.mem_singleton.1 hm
      exact key _ _ hk hlk h3

theorem wpM_of_S (hs : Region.noSelect ops = true) (hQ : ∀ c (a : Act) (t : Array Value) w, Q (.panic c) { a with tmps := t } w → Q (.panic c) a w) :
    ∀ (tr : STr) (fuel : Nat) (listed : Array Bool) (a : Act) (w : World), From W w → tr.len ≤ fuel → schedS md ops lt true tr listed = true → wpS P ops Q W tr a w → wpM P md ops Q lt fuel (From W) listed a w := by
  intro tr
  induction tr with
  | nil =>
    intro fuel listed a w _ _ hb h
    exact wpM_doneT (by simpa [schedS] using hb) h fuel
  | two i j r s ihr ihs =>
    intro fuel listed a w hW hf hb h
    obtain ⟨fuel, rfl⟩ : ∃ k, fuel = k + 1 := ⟨fuel - 1, by simp [STr.len] at hf; omega⟩
    simp only [STr.len, Nat.add_le_add_iff_right] at hf
    unfold schedS at hb
    simp only [Bool.and_eq_true, Bool.true_and, Bool.not_eq_true', beq_iff_eq] at hb
    obtain ⟨⟨⟨⟨hr, hli⟩, hlj⟩, hbr⟩, hbs⟩ := hb
    obtain ⟨⟨oi, hoi, h1⟩, ⟨oj, hoj, h2⟩⟩ := h
    refine wpM_two hr hoi hoj hli hlj (fun K hK => ?_) (fun K hK => ?_)
    · by_cases hw : Region.wanted oi (yielded ops a.tmps) = true
      · rw [if_pos hw] at h1 ⊢
        exact Oper.wp_mono (fun a' w' h' => hK (From W) _ _ (fun _ h => h) h'.1 (ihr fuel _ _ _ h'.1 (by omega) hbr h'.2)) h1
      · rw [if_neg hw] at h1 ⊢
        exact hK (From W) _ _ (fun _ h => h) hW (ihr fuel _ _ _ hW (by omega) hbr h1)
    · by_cases hw : Region.wanted oj (yielded ops a.tmps) = true
      · rw [if_pos hw] at h2 ⊢
        exact Oper.wp_mono (fun a' w' h' => hK (From W) _ _ (fun _ h => h) h'.1 (ihs fuel _ _ _ h'.1 (by omega) hbs h'.2)) h2
      · rw [if_neg hw] at h2 ⊢
        exact hK (From W) _ _ (fun _ h => h) hW (ihs fuel _ _ _ hW (by omega) hbs h2)
  | three i j k r s t ihr ihs iht =>
    intro fuel listed a w hW hf hb h
    obtain ⟨fuel, rfl⟩ : ∃ k, fuel = k + 1 := ⟨fuel - 1, by simp [STr.len] at hf; omega⟩
    simp only [STr.len, Nat.add_le_add_iff_right] at hf
    unfold schedS at hb
    simp only [Bool.and_eq_true, Bool.true_and, Bool.not_eq_true', beq_iff_eq] at hb
    obtain ⟨⟨⟨⟨⟨⟨hr, hli⟩, hlj⟩, hlk⟩, hbr⟩, hbs⟩, hbt⟩ := hb
    obtain ⟨⟨oi, hoi, h1⟩, ⟨oj, hoj, h2⟩, ⟨ok, hok, h3⟩⟩ := h
    refine wpM_three hr hoi hoj hok hli hlj hlk (fun K hK => ?_) (fun K hK => ?_) (fun K hK => ?_)
    · by_cases hw : Region.wanted oi (yielded ops a.tmps) = true
      · rw [if_pos hw] at h1 ⊢
        exact Oper.wp_mono (fun a' w' h' => hK (From W) _ _ (fun _ h => h) h'.1 (ihr fuel _ _ _ h'.1 (by omega) hbr h'.2)) h1
      · rw [if_neg hw] at h1 ⊢
        exact hK (From W) _ _ (fun _ h => h) hW (ihr fuel _ _ _ hW (by omega) hbr h1)
    · by_cases hw : Region.wanted oj (yielded ops a.tmps) = true
      · rw [if_pos hw] at h2 ⊢
        exact Oper.wp_mono (fun a' w' h' => hK (From W) _ _ (fun _ h => h) h'.1 (ihs fuel _ _ _ h'.1 (by omega) hbs h'.2)) h2
      · rw [if_neg hw] at h2 ⊢
        exact hK (From W) _ _ (fun _ h => h) hW (ihs fuel _ _ _ hW (by omega) hbs h2)
    · by_cases hw : Region.wanted ok (yielded ops a.tmps) = true
      · rw [if_pos hw] at h3 ⊢
        exact Oper.wp_mono (fun a' w' h' => hK (From W) _ _ (fun _ h => h) h'.1 (iht fuel _ _ _ h'.1 (by omega) hbt h'.2)) h3
      · rw [if_neg hw] at h3 ⊢
        exact hK (From W) _ _ (fun _ h => h) hW (iht fuel _ _ _ hW (by omega) hbt h3)
  | op i m rest ih =>
    intro fuel listed a w hW hf hb h
    obtain ⟨fuel, rfl⟩ : ∃ k, fuel = k + 1 := ⟨fuel - 1, by simp [STr.len] at hf; omega⟩
    simp only [STr.len, Nat.add_le_add_iff_right] at hf
    obtain ⟨o, ho, h⟩ := h
    unfold schedS at hb
    match m, h, hb with
    | m + 4, h, hb => simp at hb
    | 0, h, hb =>
      simp only [Bool.and_eq_true, Bool.true_and, Bool.not_eq_true'] at hb
      obtain ⟨⟨⟨⟨hr, hfr⟩, hlb⟩, hl⟩, hb⟩ := hb
      by_cases hw : Region.wanted o (yielded ops a.tmps) = true
      · rw [if_pos hw] at h
        obtain ⟨v, hv, h⟩ := h
        exact wpM_take ho hs hfr hr (hput hQ o _) hW hl hlb (.inl ⟨hw, hv⟩) (ih fuel _ _ _ hW hf hb h)
      · rw [if_neg hw] at h
        exact wpM_take ho hs hfr hr (hput hQ o _) hW hl hlb (.inr ⟨by simpa using hw, rfl⟩) (ih fuel _ _ _ hW hf hb h)
    | 1, h, hb =>
      simp only [Bool.and_eq_true, Bool.true_and, Bool.not_eq_true'] at hb
      obtain ⟨⟨⟨hr, hfr⟩, hl⟩, hb⟩ := hb
      by_cases hw : Region.wanted o (yielded ops a.tmps) = true
      · rw [if_pos hw] at h
        obtain ⟨v, hv, h⟩ := h
        exact wpM_takeU ho hs hfr hr (hput hQ o _) hW hl (.inl ⟨hw, hv⟩) (ih fuel _ _ _ hW hf hb h)
      · rw [if_neg hw] at h
        exact wpM_takeU ho hs hfr hr (hput hQ o _) hW hl (.inr ⟨by simpa using hw, rfl⟩) (ih fuel _ _ _ hW hf hb h)
    | 2, h, hb =>
      simp only [Bool.and_eq_true, Bool.true_and, Bool.not_eq_true', beq_iff_eq] at hb
      obtain ⟨⟨hr, hl⟩, hb⟩ := hb
      refine wpM_one hr ho hl fun K hK => ?_
      by_cases hw : Region.wanted o (yielded ops a.tmps) = true
      · rw [if_pos hw] at h ⊢
        exact Oper.wp_mono (fun a' w' h' => hK (From W) _ _ (fun _ h => h) h'.1 (ih fuel _ _ _ h'.1 hf hb h'.2)) h
      · rw [if_neg hw] at h ⊢
        exact hK (From W) _ _ (fun _ h => h) hW (ih fuel _ _ _ hW hf hb h)
    | 3, h, hb =>
      simp only [Bool.and_eq_true, Bool.true_and, beq_iff_eq] at hb
      obtain ⟨⟨hr, hl⟩, hb⟩ := hb
      refine wpM_late hr ho hl fun K hK => ?_
      by_cases hw : Region.wanted o (yielded ops a.tmps) = true
      · rw [if_pos hw] at h ⊢
        exact Oper.wp_mono (fun a' w' h' => hK _ _ (wpAny_of_S hs hQ rest fuel _ _ _ hf hb h')) h
      · rw [if_neg hw] at h ⊢
        exact hK _ _ (wpAny_of_S hs hQ rest fuel _ _ _ hf hb h)

def STr.late : STr → List Nat
  | .nil => []
  | .op i m r => if m = 3 then i :: r.late else r.late
  | .two _ _ r s => r.late ++ s.late
  | .three _ _ _ r s t => r.late ++ (s.late ++ t.late)
def schedTr (ops : Array Oper) (tr : STr) : Bool :=
  Region.noSelect ops && decide (tr.len ≤ ops.size) && schedS .any ops (fun i => tr.late.contains i) true tr (Array.replicate ops.size false)
theorem wp_region_S {id : Nat} {a : Act} {w : World} (tr : STr) (hm : P.follows .mixedOrders = true) (hb : schedTr ops tr = true) (hQ : ∀ c (a : Act) (t : Array Value) w, Q (.panic c) { a with tmps := t } w → Q (.panic c) a w)
    (h : wpS P ops Q w.drew tr a w.drew) : (Code.region id ops true).wp P Q a w := by
  unfold schedTr at hb
  simp only [Bool.and_eq_true, decide_eq_true_eq] at hb
  exact wp_region_any hm (wpAny_of_M _ _ _ _ _ (wpM_of_S (lt := fun i => tr.late.contains i) hb.1.1 hQ tr ops.size _ a w.drew (From.refl _) hb.1.2 hb.2 h))

/-! The steps. -/
variable {i j : Nat} {o : Oper} {rest r s : STr} {a : Act} {w : World} {v : Value}
theorem wpS_nil (h : Q .normal a w) : wpS P ops Q W .nil a w := h
theorem wpS_two (h1 : wpS P ops Q W (.op i 2 r) a w) (h2 : wpS P ops Q W (.op j 2 s) a w) : wpS P ops Q W (.two i j r s) a w := ⟨h1, h2⟩
theorem wpS_three {k : Nat} {t : STr} (h1 : wpS P ops Q W (.op i 2 r) a w) (h2 : wpS P ops Q W (.op j 2 s) a w) (h3 : wpS P ops Q W (.op k 2 t) a w) : wpS P ops Q W (.three i j k r s t) a w := ⟨h1, h2, h3⟩
theorem wpS_skip {m : Nat} (ho : ops[i]? = some o) (hw : Region.wanted o (yielded ops a.tmps) = false) (h : wpS P ops Q W rest (a.put o.dst undef) w) : wpS P ops Q W (.op i m rest) a w :=
  ⟨o, ho, by rw [if_neg (by rw [hw]; exact Bool.false_ne_true)]; exact h⟩
theorem wpS_pure (ho : ops[i]? = some o) (hw : Region.wanted o (yielded ops a.tmps) = true) (hv : ∀ x, (execOp a.eval o).run P x = .ok (.value v) x) (h : wpS P ops Q W rest (a.put o.dst v) w) : wpS P ops Q W (.op i 1 rest) a w :=
  ⟨o, ho, by rw [if_pos hw]; exact ⟨v, hv, h⟩⟩
theorem wpS_read (ho : ops[i]? = some o) (hw : Region.wanted o (yielded ops a.tmps) = true) (hv : ∀ x, From W x → (execOp a.eval o).run P x = .ok (.value v) x) (h : wpS P ops Q W rest (a.put o.dst v) w) : wpS P ops Q W (.op i 0 rest) a w :=
  ⟨o, ho, by rw [if_pos hw]; exact ⟨v, hv, h⟩⟩
theorem wpS_call (ho : ops[i]? = some o) (hw : Region.wanted o (yielded ops a.tmps) = true) (h : ∀ K : Act → World → Prop, (∀ a' w', FromT W w' (wpS P ops Q W rest a' w') → K a' w') → o.wp P a w K Q) : wpS P ops Q W (.op i 2 rest) a w :=
  ⟨o, ho, by rw [if_pos hw]; exact h _ (fun _ _ h => h)⟩
theorem wpS_late (ho : ops[i]? = some o) (hw : Region.wanted o (yielded ops a.tmps) = true) (h : ∀ K : Act → World → Prop, (∀ a' w', wpS P ops Q W rest a' w' → K a' w') → o.wp P a w K Q) : wpS P ops Q W (.op i 3 rest) a w :=
  ⟨o, ho, by rw [if_pos hw]; exact h _ (fun _ _ h => h)⟩
theorem wpS_any (ho : ops[i]? = some o) (hw : Region.wanted o (yielded ops a.tmps) = true) (h : ∀ K : Act → World → Prop, (∀ a' w', wpS P ops Q W rest a' w' → K a' w') → o.wp P a w K Q) : wpS P ops Q W (.op i 4 rest) a w :=
  ⟨o, ho, by rw [if_pos hw]; exact h _ (fun _ _ h => h)⟩
theorem wpS_load {t : TypeId} {x : Operand} (ho : ops[i]? = some o) (hop : o.op = .load t x) (hw : Region.wanted o (yielded ops a.tmps) = true) (hv : (execOp a.eval o).run P W = .ok (.value v) W) (h : wpS P ops Q W rest (a.put o.dst v) w) : wpS P ops Q W (.op i 0 rest) a w := by
  refine wpS_read ho hw (fun y hy => ?_) h
  have hr : readB P (execOp a.eval o) := by
    unfold execOp
    rw [hop]
    exact readB_bind' (readB_loadAt t _) fun _ => trivial
  exact (readB_run _ hr hv).2 y hy
end
end Go.Proofs.Ythpioncehigoaaa
