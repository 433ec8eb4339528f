/-
  Layer 18: plain laws: what compares the same may be there alike; a store of facts, in whatever order they come.
-/
import Derived.Test.YthpioncehigoaaaYp
set_option linter.unusedVariables false
namespace Go.Proofs.Ythpioncehigoaaa
open Go.RowKit
set_option linter.unusedSimpArgs false

theorem orI_zero {a b : Int} (h : orI a b = 0) : a = 0 ∧ b = 0 := by
  unfold orI at h
  split at h
  · rename_i h1; exact ⟨h1, h⟩
  · rename_i h1; exact absurd h h1
theorem cmpI_zero {a b : Int} (h : cmpI a b = 0) : a = b := by
  unfold cmpI at h
  split at h
  · omega
  · split at h <;> omega
theorem cmp0_zero {t u : Tm} (h : cmp0 t u = 0) : t.k = u.k ∧ t.n = u.n ∧ t.s = u.s := by
  unfold cmp0 at h
  obtain ⟨h1, h2⟩ := orI_zero h
  obtain ⟨h3, h4⟩ := orI_zero h2
  exact ⟨cmpI_zero h1, cmpI_zero h3, cmpS_eq.1 h4⟩
theorem cmpL_zero {α : Type} {f : α → α → Int} : ∀ {a b : List α}, cmpL f a b = 0 → a.length = b.length ∧ ∀ (i : Nat) (x y : α), a[i]? = some x → b[i]? = some y → f x y = 0
  | [], [], _ => ⟨rfl, fun i x y h => by simp at h⟩
  | [], _ :: _, h => by simp [cmpL] at h
  | _ :: _, [], h => by simp [cmpL] at h
  | x :: a, y :: b, h => by
    rw [cmpL] at h
    obtain ⟨h1, h2⟩ := orI_zero h
    obtain ⟨h3, h4⟩ := cmpL_zero h2
    refine ⟨by rw [List.length_cons, List.length_cons, h3], fun i u v hu hv => ?_⟩
    cases i with
    | zero =>
      simp only [List.getElem?_cons_zero, Option.some.injEq] at hu hv
      rw [← hu, ← hv]
      exact h1
    | succ i => exact h4 i u v (by simpa using hu) (by simpa using hv)
theorem mayE_flat {t : Tm} (h : mayE t = true) : t.l = [] := by
  have key : t.l.length = 0 := by
    unfold mayE at h
    repeat' split at h
    all_goals first
      | exact absurd h Bool.false_ne_true
      | (simp only [Bool.and_eq_true, decide_eq_true_eq] at h
         first
          | exact h.2.2
          | exact h.2
          | exact h.2.2.2)
  exact List.eq_nil_of_length_eq_zero key
theorem mayE_cong {t u : Tm} (hk : t.k = u.k) (hn : t.n = u.n) (hs : t.s = u.s) (hl : t.l.length = u.l.length) : mayE t = mayE u := by
  unfold mayE
  rw [hk, hn, hs, hl]
theorem cmpT_pos {d : Nat} {t u : Tm} (h : cmpT (d + 1) t u = 0) : cmp0 t u = 0 ∧ cmpL (cmpT d) t.l u.l = 0 := by
  rw [cmpT] at h
  exact orI_zero h
theorem cmpT_flat {x y : Tm} (hx : x.l = []) (hy : y.l = []) (d : Nat) : cmpT d x y = cmp0 x y := by
  cases d with
  | zero => rfl
  | succ d =>
    rw [cmpT, hx, hy, cmpL, orI]
    split
    · rename_i h; exact h.symm
    · rfl
theorem fix_cong {t u : Tm} (h : cmpA t u = 0) (ht : fixT t = true) : fixT u = true := by
  unfold cmpA at h
  obtain ⟨h1, h2⟩ := cmpT_pos h
  obtain ⟨hk, hn, hs⟩ := cmp0_zero h1
  obtain ⟨hl, he⟩ := cmpL_zero h2
  by_cases h7 : t.k = 7
  · have hx := ht
    unfold fixT mayT at hx ⊢
    rw [if_pos h7] at hx
    rw [if_pos (by rw [← hk]; exact h7)]
    simp only [Bool.and_eq_true, decide_eq_true_eq] at hx ⊢
    obtain ⟨g1, g2, g3, g4⟩ := hx
    refine ⟨by rw [← hk]; exact g1, by rw [← hn]; exact g2, by rw [← hs]; exact g3, (risT_iff _).2 ?_⟩
    have hr := (risT_iff _).1 g4
    have each : ∀ (i : Nat) (y : Tm), u.l[i]? = some y → ∃ x, t.l[i]? = some x ∧ x ∈ t.l ∧ cmpT 2 x y = 0 ∧ x.l = [] ∧ y.l = [] ∧ x.k = y.k ∧ x.n = y.n ∧ x.s = y.s := fun i y hy => by
      have hil : i < t.l.length := by rw [hl]; exact (List.getElem?_eq_some_iff.1 hy).1
      have hx := List.getElem?_eq_getElem hil
      have hc := he i _ y hx hy
      obtain ⟨c1, c2⟩ := cmpT_pos hc
      obtain ⟨k1, k2, k3⟩ := cmp0_zero c1
      have hxl := mayE_flat (hr.each _ (List.getElem_mem hil)).1
      obtain ⟨c3, _⟩ := cmpL_zero c2
      rw [hxl] at c3
      exact ⟨_, hx, List.getElem_mem hil, hc, hxl, List.eq_nil_of_length_eq_zero c3.symm, k1, k2, k3⟩
    have mem : ∀ y ∈ u.l, ∃ x ∈ t.l, x.l = [] ∧ y.l = [] ∧ x.k = y.k ∧ x.n = y.n ∧ x.s = y.s := fun y hy => by
      obtain ⟨i, hi⟩ := List.getElem?_of_mem hy
      obtain ⟨x, _, hx, _, e1, e2, e3, e4, e5⟩ := each i y hi
      exact ⟨x, hx, e1, e2, e3, e4, e5⟩
    refine ⟨by rw [← hl]; exact hr.len, fun y hy => ?_, fun y hy z hz => ?_, fun i y z hy hz => ?_⟩
    · obtain ⟨x, hx, e1, e2, e3, e4, e5⟩ := mem y hy
      obtain ⟨m1, m2, m3⟩ := hr.each x hx
      exact ⟨by rw [← mayE_cong e3 e4 e5 (by rw [e1, e2])]; exact m1, by rw [← e3]; exact m2, by rw [← e3]; exact m3⟩
    · obtain ⟨x, hx, _, _, e3, _⟩ := mem y hy
      obtain ⟨x', hx', _, _, e3', _⟩ := mem z hz
      rw [← e3, ← e3']
      exact hr.kind x hx x' hx'
    · obtain ⟨x, hx, _, hc, e1, e2, e3, e4, e5⟩ := each i y hy
      obtain ⟨x', hx', _, hc', e1', e2', e3', e4', e5'⟩ := each (i + 1) z hz
      have hu := hr.up i x x' hx hx'
      have z1 : cmpA x y = 0 := by unfold cmpA; rw [cmpT_flat e1 e2, ← cmpT_flat e1 e2 2]; exact hc
      have z2 : cmpA x' z = 0 := by unfold cmpA; rw [cmpT_flat e1' e2', ← cmpT_flat e1' e2' 2]; exact hc'
      rw [← cmpA_ord.eq_l z1, ← cmpA_ord.eq_r z2]
      exact hu
  · have h1 : t.k ≠ 1 := fun e => by rw [fixT_1 e] at ht; cases ht
    rw [fixT_e h1 h7] at ht
    rw [fixT_e (by rw [← hk]; exact h1) (by rw [← hk]; exact h7), ← mayE_cong hk hn hs hl]
    exact ht
/-- What compares the same may be there alike. -/
theorem ok_cong {f g : Fc} (h : cmpF f g = 0) (hf : okF f = true) : okF g = true := by
  unfold cmpF at h
  rw [orL4] at h
  obtain ⟨h1, h2⟩ := orI_zero h
  obtain ⟨h3, h4⟩ := orI_zero h2
  obtain ⟨h5, h6⟩ := orI_zero h4
  have e1 := cmpS_eq.1 h1
  have e2 := cmpI_zero h3
  have e3 := cmpI_zero h6
  obtain ⟨hl, he⟩ := cmpL_zero h5
  unfold okF at hf ⊢
  simp only [Bool.and_eq_true, decide_eq_true_eq, List.all_eq_true] at hf ⊢
  obtain ⟨g1, g2, g3, g4⟩ := hf
  refine ⟨by rw [← e3]; exact g1, by rw [← e1]; exact g2, by rw [← hl]; exact g3, fun u hu => ?_⟩
  obtain ⟨i, hi⟩ := List.getElem?_of_mem hu
  have hil : i < f.ts.length := by rw [hl]; exact (List.getElem?_eq_some_iff.1 hi).1
  have hx := List.getElem?_eq_getElem hil
  exact fix_cong (he i _ u hx hi) (g4 _ (List.getElem_mem hil))
/-- A store of these. -/
noncomputable def made (l : List Fc) : List Fc := l.foldl addX []
theorem made_snoc (l : List Fc) (f : Fc) : made (l ++ [f]) = addX (made l) f := by
  unfold made
  rw [List.foldl_append]
  rfl
theorem fold_law : ∀ (l X : List Fc), RisF X → RisF (l.foldl addX X) ∧ (∀ x ∈ l.foldl addX X, x ∈ X ∨ ∃ f ∈ l, okF f = true ∧ x = shF f) ∧ (∀ f ∈ l, okF f = true → ∃ x ∈ l.foldl addX X, cmpF x f = 0) ∧ (∀ x ∈ X, x ∈ l.foldl addX X)
  | [], X, h => ⟨h, fun x hx => .inl hx, fun f hf => (by cases hf), fun x hx => hx⟩
  | a :: l, X, h => by
    obtain ⟨p1, p2, p3, p4⟩ := fold_law l (addX X a) (addX_ris h a)
    rw [List.foldl_cons]
    refine ⟨p1, fun x hx => ?_, fun f hf hok => ?_, fun x hx => p4 x ?_⟩
    · rcases p2 x hx with q | ⟨f, hf, h1, h2⟩
      · unfold addX at q
        split at q
        · rename_i hok
          rcases insF_mem X _ x q with e | e
          · exact .inr ⟨a, List.mem_cons_self .., hok, e⟩
          · exact .inl e
        · exact .inl q
      · exact .inr ⟨f, List.mem_cons_of_mem _ hf, h1, h2⟩
    · rcases List.mem_cons.1 hf with e | e
      · subst e
        have hx : ∃ y ∈ addX X f, cmpF y (shF f) = 0 := by
          unfold addX
          rw [if_pos hok]
          exact insF_new X (shF f)
        obtain ⟨y, hy, e⟩ := hx
        exact ⟨y, p4 y hy, by rw [← cmpF_like (f := y) (f' := y) rfl (shF_shF f)]; exact e⟩
      · exact p3 f e hok
    · unfold addX
      split
      · exact insF_keep X _ x hx
      · exact hx
theorem made_ris (l : List Fc) : RisF (made l) := (fold_law l [] trivial).1
theorem made_mem (l : List Fc) {x : Fc} (h : x ∈ made l) : ∃ f ∈ l, okF f = true ∧ x = shF f := by
  rcases (fold_law l [] trivial).2.1 x h with q | q
  · cases q
  · exact q
theorem made_has (l : List Fc) {f : Fc} (hf : f ∈ l) : hasX (made l) f = okF f := by
  unfold hasX
  rw [Bool.eq_iff_iff, List.any_eq_true]
  constructor
  · rintro ⟨x, hx, h⟩
    obtain ⟨g, _, hg, rfl⟩ := made_mem l hx
    refine ok_cong (f := g) ?_ hg
    rw [← cmpF_like (shF_shF g) rfl]
    exact of_decide_eq_true h
  · intro h
    obtain ⟨x, hx, e⟩ := (fold_law l [] trivial).2.2.1 f hf h
    exact ⟨x, hx, decide_eq_true e⟩
/-- Of two rows with the same members the stores are the same, one by one. -/
theorem made_same {a b : List Fc} (h : ∀ x, x ∈ a ↔ x ∈ b) : EqF (made a) (made b) := by
  have key : ∀ {a b : List Fc}, (∀ x, x ∈ a → x ∈ b) → ∀ x ∈ made a, ∃ y ∈ made b, cmpF x y = 0 := fun {a b} h x hx => by
    obtain ⟨f, hf, hok, rfl⟩ := made_mem a hx
    obtain ⟨y, hy, e⟩ := (fold_law b [] trivial).2.2.1 f (h f hf) hok
    refine ⟨y, hy, ?_⟩
    have e2 := cmpF_flip e
    rw [← cmpF_like (f := shF f) (f' := f) (g := y) (g' := y) (shF_shF f) rfl] at e2
    exact e2
  exact risF_eq _ _ (made_ris a) (made_ris b) (key fun x hx => (h x).1 hx) (fun y hy => by
    obtain ⟨x, hx, e⟩ := key (fun x hx => (h x).2 hx) y hy
    exact ⟨x, hx, cmpF_flip e⟩)
/-- The same rows. -/
def sameF : List Fc → List Fc → Bool
  | [], [] => true
  | x :: a, y :: b => decide (cmpF x y = 0) && sameF a b
  | _, _ => false
theorem sameF_len : ∀ {a b : List Fc}, a.length ≠ b.length → sameF a b = false
  | [], [], h => absurd rfl h
  | [], _ :: _, _ => rfl
  | _ :: _, [], _ => rfl
  | x :: a, y :: b, h => by
    rw [sameF, sameF_len (a := a) (b := b) (fun e => h (by rw [List.length_cons, List.length_cons, e])), Bool.and_false]
theorem sameF_eq : ∀ {a b : List Fc}, EqF a b → sameF a b = true
  | [], [], _ => rfl
  | x :: a, y :: b, h => by rw [sameF, decide_eq_true h.1, sameF_eq h.2]; rfl
  | [], _ :: _, h => h.elim
  | _ :: _, [], h => h.elim
theorem sameF_sh : ∀ {a a' b b' : List Fc}, a.map shF = a'.map shF → b.map shF = b'.map shF → sameF a b = sameF a' b'
  | [], [], [], [], _, _ => rfl
  | [], [], _ :: _, _ :: _, _, _ => rfl
  | _ :: _, _ :: _, [], [], _, _ => rfl
  | x :: a, x' :: a', y :: b, y' :: b', h, h' => by
    simp only [List.map_cons, List.cons.injEq] at h h'
    rw [sameF, sameF, cmpF_like h.1 h'.1, sameF_sh h.2 h'.2]
  | [], _ :: _, _, _, h, _ => by simp at h
  | _ :: _, [], _, _, h, _ => by simp at h
  | [], [], [], _ :: _, _, h => by simp at h
  | [], [], _ :: _, [], _, h => by simp at h
  | _ :: _, _ :: _, [], _ :: _, _, h => by simp at h
  | _ :: _, _ :: _, _ :: _, [], _, h => by simp at h
end Go.Proofs.Ythpioncehigoaaa
