/-
  A region that draws its order, walked along a tree of schedules under a condition of one's own: what only reads is read in every world that meets it, what writes keeps it.
  No program is named here.
-/
import Derived.Test.YthpioncehigoaaaTz
set_option linter.unusedSimpArgs false
set_option linter.unusedVariables false
namespace Go.Proofs.Ythpioncehigoaaa
open Go.RowKit

theorem cond_mk {S : World → Prop} {w' : World} {p : Prop} (h : S w') (hp : p) : (fun q => S w' ∧ q) p := ⟨h, hp⟩
section
variable {P : Program} {ops : Array Oper} {Q : Exit → Act → World → Prop} {md : Region.Mode} {lt : Nat → Bool} {S : World → Prop}

def wpC (P : Program) (ops : Array Oper) (Q : Exit → Act → World → Prop) (S : World → Prop) : STr → Act → World → Prop
  | .nil, a, w => Q .normal a w
  | .op i m rest, a, w => ∃ o, ops[i]? = some o ∧
    if Region.wanted o (yielded ops a.tmps) = true then
      (match m with
       | 0 => ∃ v, (∀ x, S x → (execOp a.eval o).run P x = .ok (.value v) x) ∧ wpC P ops Q S rest (a.put o.dst v) w
       | 1 => ∃ v, (∀ x, (execOp a.eval o).run P x = .ok (.value v) x) ∧ wpC P ops Q S rest (a.put o.dst v) w
       | 2 => o.wp P a w (fun a' w' => (fun p => S w' ∧ p) (wpC P ops Q S rest a' w')) Q
       | _ => o.wp P a w (fun a' w' => wpC P ops Q S rest a' w') Q)
    else wpC P ops Q S rest (a.put o.dst undef) w
  | .two i j r s, a, w =>
    (∃ o, ops[i]? = some o ∧ if Region.wanted o (yielded ops a.tmps) = true then o.wp P a w (fun a' w' => (fun p => S w' ∧ p) (wpC P ops Q S r a' w')) Q else wpC P ops Q S r (a.put o.dst undef) w) ∧
    (∃ o, ops[j]? = some o ∧ if Region.wanted o (yielded ops a.tmps) = true then o.wp P a w (fun a' w' => (fun p => S w' ∧ p) (wpC P ops Q S s a' w')) Q else wpC P ops Q S s (a.put o.dst undef) w)
  | .three _ _ _ _ _ _, _, _ => False

theorem wpAny_of_C (hs : Region.noSelect ops = true) (hQ : ∀ c (a : Act) (t : Array Value) w, Q (.panic c) { a with tmps := t } w → Q (.panic c) a w) :
    ∀ (tr : STr) (fuel : Nat) (listed : Array Bool) (a : Act) (w : World), tr.len ≤ fuel → schedS md ops lt false tr listed = true → wpC P ops Q S tr a w → wpAny P md ops Q fuel listed a w := by
  intro tr
  induction tr with
  | nil =>
    intro fuel listed a w _ hb h
    exact wpAny_doneT (by simpa [schedS] using hb) h fuel
  | two i j r s _ _ =>
    intro fuel listed a w _ hb h
    simp [schedS] at hb
  | three i j k r s t _ _ _ =>
    intro fuel listed a w _ hb h
    simp [schedS] at hb
  | op i m rest ih =>
    intro fuel listed a w hf hb h
    obtain ⟨fuel, rfl⟩ : ∃ k, fuel = k + 1 := ⟨fuel - 1, by simp [STr.len] at hf; omega⟩
    simp only [STr.len, Nat.add_le_add_iff_right] at hf
    obtain ⟨o, ho, h⟩ := h
    unfold schedS at hb
    match m, h, hb with
    | 0, h, hb => simp at hb
    | 2, h, hb => simp at hb
    | 3, h, hb => simp at hb
    | 1, h, hb =>
      simp only [Bool.and_eq_true, Bool.false_and] at hb
      obtain ⟨⟨⟨hr, hfr⟩, _⟩, hb⟩ := hb
      by_cases hw : Region.wanted o (yielded ops a.tmps) = true
      · rw [if_pos hw] at h
        obtain ⟨v, hv, h⟩ := h
        exact wpAny_first ho (Region.noSelect_spec hs) (hput hQ o _) fuel listed a w (Region.free_spec ho hfr) (by simpa using hr) (.inl ⟨hw, hv⟩) (ih fuel _ _ _ hf hb h)
      · rw [if_neg hw] at h
        exact wpAny_first ho (Region.noSelect_spec hs) (hput hQ o _) fuel listed a w (Region.free_spec ho hfr) (by simpa using hr) (.inr ⟨by simpa using hw, rfl⟩) (ih fuel _ _ _ hf hb h)
    | m + 4, h, hb =>
      simp only [Bool.and_eq_true, Bool.false_and, beq_iff_eq] at hb
      obtain ⟨⟨_, hr⟩, hb⟩ := hb
      refine wpAny_one hr ho fun K hK => ?_
      by_cases hw : Region.wanted o (yielded ops a.tmps) = true
      · rw [if_pos hw] at h ⊢
        exact Oper.wp_mono (fun a' w' h' => hK _ _ (ih fuel _ _ _ hf hb h')) h
      · rw [if_neg hw] at h ⊢
        exact hK _ _ (ih fuel _ _ _ hf hb h)

theorem wpM_of_C (hs : Region.noSelect ops = true) (hQ : ∀ c (a : Act) (t : Array Value) w, Q (.panic c) { a with tmps := t } w → Q (.panic c) a w) :
    ∀ (tr : STr) (fuel : Nat) (listed : Array Bool) (a : Act) (w : World), S w → tr.len ≤ fuel → schedS md ops lt true tr listed = true → wpC P ops Q S tr a w → wpM P md ops Q lt fuel S listed a w := by
  intro tr
  induction tr with
  | nil =>
    intro fuel listed a w _ _ hb h
    exact wpM_doneT (by simpa [schedS] using hb) h fuel
  | two i j r s ihr ihs =>
    intro fuel listed a w hW hf hb h
    obtain ⟨fuel, rfl⟩ : ∃ k, fuel = k + 1 := ⟨fuel - 1, by simp [STr.len] at hf; omega⟩
    simp only [STr.len, Nat.add_le_add_iff_right] at hf
    unfold schedS at hb
    simp only [Bool.and_eq_true, Bool.true_and, Bool.not_eq_true', beq_iff_eq] at hb
    obtain ⟨⟨⟨⟨hr, hli⟩, hlj⟩, hbr⟩, hbs⟩ := hb
    obtain ⟨⟨oi, hoi, h1⟩, ⟨oj, hoj, h2⟩⟩ := h
    refine wpM_two hr hoi hoj hli hlj (fun K hK => ?_) (fun K hK => ?_)
    · by_cases hw : Region.wanted oi (yielded ops a.tmps) = true
      · rw [if_pos hw] at h1 ⊢
        exact Oper.wp_mono (fun a' w' h' => hK S _ _ (fun _ h => h) h'.1 (ihr fuel _ _ _ h'.1 (by omega) hbr h'.2)) h1
      · rw [if_neg hw] at h1 ⊢
        exact hK S _ _ (fun _ h => h) hW (ihr fuel _ _ _ hW (by omega) hbr h1)
    · by_cases hw : Region.wanted oj (yielded ops a.tmps) = true
      · rw [if_pos hw] at h2 ⊢
        exact Oper.wp_mono (fun a' w' h' => hK S _ _ (fun _ h => h) h'.1 (ihs fuel _ _ _ h'.1 (by omega) hbs h'.2)) h2
      · rw [if_neg hw] at h2 ⊢
        exact hK S _ _ (fun _ h => h) hW (ihs fuel _ _ _ hW (by omega) hbs h2)
  | three i j k r s t _ _ _ =>
    intro fuel listed a w _ hf hb h
    exact h.elim
  | op i m rest ih =>
    intro fuel listed a w hW hf hb h
    obtain ⟨fuel, rfl⟩ : ∃ k, fuel = k + 1 := ⟨fuel - 1, by simp [STr.len] at hf; omega⟩
    simp only [STr.len, Nat.add_le_add_iff_right] at hf
    obtain ⟨o, ho, h⟩ := h
    unfold schedS at hb
    match m, h, hb with
    | m + 4, h, hb => simp at hb
    | 0, h, hb =>
      simp only [Bool.and_eq_true, Bool.true_and, Bool.not_eq_true'] at hb
      obtain ⟨⟨⟨⟨hr, hfr⟩, hlb⟩, hl⟩, hb⟩ := hb
      by_cases hw : Region.wanted o (yielded ops a.tmps) = true
      · rw [if_pos hw] at h
        obtain ⟨v, hv, h⟩ := h
        exact wpM_take ho hs hfr hr (hput hQ o _) hW hl hlb (.inl ⟨hw, hv⟩) (ih fuel _ _ _ hW hf hb h)
      · rw [if_neg hw] at h
        exact wpM_take ho hs hfr hr (hput hQ o _) hW hl hlb (.inr ⟨by simpa using hw, rfl⟩) (ih fuel _ _ _ hW hf hb h)
    | 1, h, hb =>
      simp only [Bool.and_eq_true, Bool.true_and, Bool.not_eq_true'] at hb
      obtain ⟨⟨⟨hr, hfr⟩, hl⟩, hb⟩ := hb
      by_cases hw : Region.wanted o (yielded ops a.tmps) = true
      · rw [if_pos hw] at h
        obtain ⟨v, hv, h⟩ := h
        exact wpM_takeU ho hs hfr hr (hput hQ o _) hW hl (.inl ⟨hw, hv⟩) (ih fuel _ _ _ hW hf hb h)
      · rw [if_neg hw] at h
        exact wpM_takeU ho hs hfr hr (hput hQ o _) hW hl (.inr ⟨by simpa using hw, rfl⟩) (ih fuel _ _ _ hW hf hb h)
    | 2, h, hb =>
      simp only [Bool.and_eq_true, Bool.true_and, Bool.not_eq_true', beq_iff_eq] at hb
      obtain ⟨⟨hr, hl⟩, hb⟩ := hb
      refine wpM_one hr ho hl fun K hK => ?_
      by_cases hw : Region.wanted o (yielded ops a.tmps) = true
      · rw [if_pos hw] at h ⊢
        exact Oper.wp_mono (fun a' w' h' => hK S _ _ (fun _ h => h) h'.1 (ih fuel _ _ _ h'.1 hf hb h'.2)) h
      · rw [if_neg hw] at h ⊢
        exact hK S _ _ (fun _ h => h) hW (ih fuel _ _ _ hW hf hb h)
    | 3, h, hb =>
      simp only [Bool.and_eq_true, Bool.true_and, beq_iff_eq] at hb
      obtain ⟨⟨hr, hl⟩, hb⟩ := hb
      refine wpM_late hr ho hl fun K hK => ?_
      by_cases hw : Region.wanted o (yielded ops a.tmps) = true
      · rw [if_pos hw] at h ⊢
        exact Oper.wp_mono (fun a' w' h' => hK _ _ (wpAny_of_C hs hQ rest fuel _ _ _ hf hb h')) h
      · rw [if_neg hw] at h ⊢
        exact hK _ _ (wpAny_of_C hs hQ rest fuel _ _ _ hf hb h)

theorem wp_region_C {id : Nat} {a : Act} {w : World} (tr : STr) (S : World → Prop) (hS : S w.drew) (hm : P.follows .mixedOrders = true) (hb : schedTr ops tr = true) (hQ : ∀ c (a : Act) (t : Array Value) w, Q (.panic c) { a with tmps := t } w → Q (.panic c) a w)
    (h : wpC P ops Q S tr a w.drew) : (Code.region id ops true).wp P Q a w := by
  unfold schedTr at hb
  simp only [Bool.and_eq_true, decide_eq_true_eq] at hb
  exact wp_region_any hm (wpAny_of_M _ _ _ _ _ (wpM_of_C (lt := fun i => tr.late.contains i) hb.1.1 hQ tr ops.size _ a w.drew hS hb.1.2 hb.2 h))

/-! The steps. -/
variable {i j : Nat} {o : Oper} {rest r s : STr} {a : Act} {w : World} {v : Value}
theorem wpC_nil (h : Q .normal a w) : wpC P ops Q S .nil a w := h
theorem wpC_two (h1 : wpC P ops Q S (.op i 2 r) a w) (h2 : wpC P ops Q S (.op j 2 s) a w) : wpC P ops Q S (.two i j r s) a w := ⟨h1, h2⟩
theorem wpC_skip {m : Nat} (ho : ops[i]? = some o) (hw : Region.wanted o (yielded ops a.tmps) = false) (h : wpC P ops Q S rest (a.put o.dst undef) w) : wpC P ops Q S (.op i m rest) a w :=
  ⟨o, ho, by rw [if_neg (by rw [hw]; exact Bool.false_ne_true)]; exact h⟩
theorem wpC_pure (ho : ops[i]? = some o) (hw : Region.wanted o (yielded ops a.tmps) = true) (hv : ∀ x, (execOp a.eval o).run P x = .ok (.value v) x) (h : wpC P ops Q S rest (a.put o.dst v) w) : wpC P ops Q S (.op i 1 rest) a w :=
  ⟨o, ho, by rw [if_pos hw]; exact ⟨v, hv, h⟩⟩
theorem wpC_read (ho : ops[i]? = some o) (hw : Region.wanted o (yielded ops a.tmps) = true) (hv : ∀ x, S x → (execOp a.eval o).run P x = .ok (.value v) x) (h : wpC P ops Q S rest (a.put o.dst v) w) : wpC P ops Q S (.op i 0 rest) a w :=
  ⟨o, ho, by rw [if_pos hw]; exact ⟨v, hv, h⟩⟩
theorem wpC_call (ho : ops[i]? = some o) (hw : Region.wanted o (yielded ops a.tmps) = true) (h : ∀ K : Act → World → Prop, (∀ a' w', (fun p => S w' ∧ p) (wpC P ops Q S rest a' w') → K a' w') → o.wp P a w K Q) : wpC P ops Q S (.op i 2 rest) a w :=
  ⟨o, ho, by rw [if_pos hw]; exact h _ (fun _ _ h => h)⟩
theorem wpC_late (ho : ops[i]? = some o) (hw : Region.wanted o (yielded ops a.tmps) = true) (h : ∀ K : Act → World → Prop, (∀ a' w', wpC P ops Q S rest a' w' → K a' w') → o.wp P a w K Q) : wpC P ops Q S (.op i 3 rest) a w :=
  ⟨o, ho, by rw [if_pos hw]; exact h _ (fun _ _ h => h)⟩
theorem wpC_any (ho : ops[i]? = some o) (hw : Region.wanted o (yielded ops a.tmps) = true) (h : ∀ K : Act → World → Prop, (∀ a' w', wpC P ops Q S rest a' w' → K a' w') → o.wp P a w K Q) : wpC P ops Q S (.op i 4 rest) a w :=
  ⟨o, ho, by rw [if_pos hw]; exact h _ (fun _ _ h => h)⟩
end
end Go.Proofs.Ythpioncehigoaaa
