/-
  Layer 18: the plain law of the store: facts in order, each once.
-/
import Derived.Test.YthpioncehigoaaaYh
set_option linter.unusedVariables false
namespace Go.Proofs.Ythpioncehigoaaa
open Go.RowKit
set_option linter.unusedSimpArgs false

def samF (x y : Fc) : Bool := decide (cmpF x y = 0)
theorem cmpF_lt_le {a b c : Fc} (h1 : cmpF a b < 0) (h2 : cmpF b c ≤ 0) : cmpF a c < 0 := by
  have h3 := cmpF_ord.lt a b c (by omega) h2
  by_cases h : cmpF a c = 0
  · have := (cmpF_ord.lt' a b c (by omega) h2 h).1
    omega
  · omega
/-- A set: each ahead of all behind it. -/
def RisF : List Fc → Prop
  | [] => True
  | x :: r => (∀ y ∈ r, cmpF x y < 0) ∧ RisF r
theorem risF_snoc : ∀ (o : List Fc) (x : Fc), RisF o → (∀ y ∈ o, cmpF y x < 0) → RisF (o ++ [x])
  | [], x, _, _ => ⟨fun _ h => (by cases h), trivial⟩
  | a :: o, x, h, hx => by
    refine ⟨?_, risF_snoc o x h.2 (fun y hy => hx y (List.mem_cons_of_mem _ hy))⟩
    intro y hy
    have hy : y ∈ o ++ [x] := hy
    rw [List.mem_append] at hy
    rcases hy with q | q
    · exact h.1 y q
    · rw [List.mem_singleton.1 q]; exact hx a (List.mem_cons_self ..)
/-- The same, one by one. -/
def EqF : List Fc → List Fc → Prop
  | [], [] => True
  | x :: a, y :: b => cmpF x y = 0 ∧ EqF a b
  | _, _ => False
theorem cmpF_flip {x y : Fc} (h : cmpF x y = 0) : cmpF y x = 0 := by have := cmpF_ord.anti x y; omega
theorem cmpF_tr {x y z : Fc} (h : cmpF x y = 0) (h' : cmpF y z = 0) : cmpF x z = 0 := by
  have h1 := cmpF_ord.lt x y z (by omega) (by omega)
  have h2 := cmpF_ord.lt z y x (by have := cmpF_flip h'; omega) (by have := cmpF_flip h; omega)
  have := cmpF_ord.anti x z
  omega
theorem cmpF_eq_lt {x y z : Fc} (h : cmpF x y = 0) (h' : cmpF y z < 0) : cmpF x z < 0 := by
  have h1 := cmpF_ord.lt x y z (by omega) (by omega)
  by_cases e : cmpF x z = 0
  · have := cmpF_tr (cmpF_flip h) e
    omega
  · omega
theorem risF_eq : ∀ (a b : List Fc), RisF a → RisF b → (∀ x ∈ a, ∃ y ∈ b, cmpF x y = 0) → (∀ y ∈ b, ∃ x ∈ a, cmpF x y = 0) → EqF a b
  | [], [], _, _, _, _ => trivial
  | [], y :: b, _, _, _, h => by
    obtain ⟨x, hx, _⟩ := h y (List.mem_cons_self ..)
    cases hx
  | x :: a, [], _, _, h, _ => by
    obtain ⟨y, hy, _⟩ := h x (List.mem_cons_self ..)
    cases hy
  | x :: a, y :: b, ha, hb, h1, h2 => by
    have hxy : cmpF x y = 0 := by
      obtain ⟨y', hy', e⟩ := h1 x (List.mem_cons_self ..)
      obtain ⟨x', hx', e'⟩ := h2 y (List.mem_cons_self ..)
      rcases List.mem_cons.1 hy' with q | q
      · rw [← q]; exact e
      · rcases List.mem_cons.1 hx' with r | r
        · rw [← r]; exact e'
        · have k1 := hb.1 y' q
          have k2 := ha.1 x' r
          have k3 := cmpF_eq_lt e' k1
          have k4 := cmpF_ord.lt' x x' y' (by omega) (by omega) e
          omega
    refine ⟨hxy, risF_eq a b ha.2 hb.2 (fun z hz => ?_) (fun z hz => ?_)⟩
    · obtain ⟨u, hu, e⟩ := h1 z (List.mem_cons_of_mem _ hz)
      rcases List.mem_cons.1 hu with q | q
      · have k := ha.1 z hz
        rw [q] at e
        have := cmpF_tr hxy (cmpF_flip e)
        omega
      · exact ⟨u, q, e⟩
    · obtain ⟨u, hu, e⟩ := h2 z (List.mem_cons_of_mem _ hz)
      rcases List.mem_cons.1 hu with q | q
      · have k := hb.1 z hz
        rw [q] at e
        have := cmpF_tr (cmpF_flip hxy) e
        omega
      · exact ⟨u, q, e⟩
/-- Put where it belongs, if it isn't there. -/
def insF : List Fc → Fc → List Fc
  | [], x => [x]
  | y :: r, x => if cmpF y x < 0 then y :: insF r x else if samF y x = true then y :: r else x :: y :: r
theorem insF_mem : ∀ (l : List Fc) (x z : Fc), z ∈ insF l x → z = x ∨ z ∈ l
  | [], x, z, h => .inl (List.mem_singleton.1 h)
  | y :: r, x, z, h => by
    rw [insF] at h
    split at h
    · rcases List.mem_cons.1 h with q | q
      · exact .inr (by rw [q]; exact List.mem_cons_self ..)
      · rcases insF_mem r x z q with p | p
        · exact .inl p
        · exact .inr (List.mem_cons_of_mem _ p)
    · split at h
      · exact .inr h
      · rcases List.mem_cons.1 h with q | q
        · exact .inl q
        · exact .inr q
theorem insF_keep : ∀ (l : List Fc) (x z : Fc), z ∈ l → z ∈ insF l x
  | [], _, _, h => by cases h
  | y :: r, x, z, h => by
    rw [insF]
    split
    · rcases List.mem_cons.1 h with q | q
      · rw [q]; exact List.mem_cons_self ..
      · exact List.mem_cons_of_mem _ (insF_keep r x z q)
    · split
      · exact h
      · exact List.mem_cons_of_mem _ h
theorem insF_new : ∀ (l : List Fc) (x : Fc), ∃ y ∈ insF l x, cmpF y x = 0
  | [], x => ⟨x, List.mem_singleton.2 rfl, cmpF_ord.self x⟩
  | y :: r, x => by
    rw [insF]
    split
    · obtain ⟨z, hz, e⟩ := insF_new r x
      exact ⟨z, List.mem_cons_of_mem _ hz, e⟩
    · split
      · rename_i h
        exact ⟨y, List.mem_cons_self .., of_decide_eq_true h⟩
      · exact ⟨x, List.mem_cons_self .., cmpF_ord.self x⟩
theorem insF_ris : ∀ (l : List Fc) (x : Fc), RisF l → RisF (insF l x)
  | [], _, _ => ⟨fun _ h => (by cases h), trivial⟩
  | y :: r, x, h => by
    rw [insF]
    split
    · rename_i hlt
      refine ⟨fun z hz => ?_, insF_ris r x h.2⟩
      rcases insF_mem r x z hz with q | q
      · rw [q]; exact hlt
      · exact h.1 z q
    · rename_i hlt
      split
      · exact h
      · rename_i hs
        have hne : cmpF y x ≠ 0 := fun e => hs (decide_eq_true e)
        have hxy : cmpF x y < 0 := by have := cmpF_ord.anti x y; omega
        refine ⟨fun z hz => ?_, h⟩
        rcases List.mem_cons.1 hz with q | q
        · rw [q]; exact hxy
        · exact cmpF_lt_le hxy (by have := h.1 z q; omega)
/-- Where it goes. -/
theorem insF_at : ∀ (l : List Fc) (x : Fc) (j : Nat), j ≤ l.length → (∀ i, i < j → ∃ y, l[i]? = some y ∧ cmpF y x < 0) → (∀ y, l[j]? = some y → ¬ cmpF y x < 0) →
    insF l x = if (∃ y, l[j]? = some y ∧ samF y x = true) then l else l.take j ++ x :: l.drop j
  | [], x, j, hj, _, _ => by
    have : j = 0 := by simpa using hj
    subst this
    rw [insF, if_neg (by rintro ⟨y, h, _⟩; cases h)]
    rfl
  | a :: l, x, 0, _, _, h2 => by
    have ha := h2 a rfl
    rw [insF, if_neg ha]
    by_cases hs : samF a x = true
    · rw [if_pos hs, if_pos ⟨a, rfl, hs⟩]
    · rw [if_neg hs, if_neg (by rintro ⟨y, h, h'⟩; exact hs (by rw [Option.some.inj h]; exact h'))]
      rfl
  | a :: l, x, j + 1, hj, h1, h2 => by
    obtain ⟨y, e, hy⟩ := h1 0 (by omega)
    have e : a = y := Option.some.inj e
    rw [insF, e, if_pos hy, insF_at l x j (by simpa using hj) (fun i hi => by have := h1 (i + 1) (by omega); simpa using this) (fun z hz => h2 z (by simpa using hz))]
    by_cases hs : ∃ z, l[j]? = some z ∧ samF z x = true
    · rw [if_pos hs, if_pos (by simpa using hs)]
    · rw [if_neg hs, if_neg (by simpa using hs)]
      rfl

/-- How many of the first are ahead of it. -/
def plc (g : Fc → Int) : List Fc → Nat
  | [] => 0
  | x :: r => if g x < 0 then plc g r + 1 else 0
theorem plc_le (g : Fc → Int) : ∀ l : List Fc, plc g l ≤ l.length
  | [] => Nat.le_refl _
  | x :: r => by
    rw [plc]
    split
    · have := plc_le g r; rw [List.length_cons]; omega
    · exact Nat.zero_le _
theorem plc_lo (g : Fc → Int) : ∀ (l : List Fc) (i : Nat) (x : Fc), l[i]? = some x → i < plc g l → g x < 0
  | [], i, x, h, _ => by simp at h
  | a :: r, i, x, h, hi => by
    rw [plc] at hi
    split at hi
    · rename_i ha
      cases i with
      | zero => simp only [List.getElem?_cons_zero, Option.some.injEq] at h; rw [← h]; exact ha
      | succ i => exact plc_lo g r i x (by simpa using h) (by omega)
    · omega
theorem plc_at (g : Fc → Int) : ∀ (l : List Fc) (x : Fc), l[plc g l]? = some x → ¬ g x < 0
  | [], x, h => by simp [plc] at h
  | a :: r, x, h => by
    rw [plc] at h
    split at h
    · exact plc_at g r x (by simpa using h)
    · rename_i ha
      simp only [List.getElem?_cons_zero, Option.some.injEq] at h
      rw [← h]
      exact ha
theorem risF_lt : ∀ (l : List Fc), RisF l → ∀ (i j : Nat) (x y : Fc), i < j → l[i]? = some x → l[j]? = some y → cmpF x y < 0
  | [], _, i, j, x, y, _, h, _ => by simp at h
  | a :: l, hr, 0, j, x, y, hij, h, h' => by
    simp only [List.getElem?_cons_zero, Option.some.injEq] at h
    rw [← h]
    obtain ⟨j, rfl⟩ : ∃ k, j = k + 1 := ⟨j - 1, by omega⟩
    exact hr.1 y (List.mem_of_getElem? (by simpa using h'))
  | a :: l, hr, i + 1, j, x, y, hij, h, h' => by
    obtain ⟨j, rfl⟩ : ∃ k, j = k + 1 := ⟨j - 1, by omega⟩
    exact risF_lt l hr.2 i j x y (by omega) (by simpa using h) (by simpa using h')
theorem part_of {l : List Fc} (h : RisF l) (f : Fc) : PartF (fun x => cmpF x f) l (plc (fun x => cmpF x f) l) := by
  refine ⟨plc_le _ l, fun i x hi hlt => plc_lo _ l i x hi hlt, fun i x hi hle => ?_⟩
  have hil := (List.getElem?_eq_some_iff.1 hi).1
  have hpl : plc (fun x => cmpF x f) l < l.length := by omega
  have hy := plc_at (fun x => cmpF x f) l _ (List.getElem?_eq_getElem hpl)
  show ¬ cmpF x f < 0
  by_cases e : i = plc (fun x => cmpF x f) l
  · subst e
    rw [List.getElem?_eq_getElem hpl] at hi
    rw [← Option.some.inj hi]
    exact hy
  · have h1 := risF_lt l h _ i _ x (by omega) (List.getElem?_eq_getElem hpl) hi
    intro h2
    exact hy (cmpF_lt_le h1 (by omega))
/-- It goes where it belongs. -/
theorem ins_plc (l : List Fc) (f : Fc) : insF l f = if fndF (fun x => cmpF x f) l (plc (fun x => cmpF x f) l) = true then l else l.take (plc (fun x => cmpF x f) l) ++ f :: l.drop (plc (fun x => cmpF x f) l) := by
  rw [insF_at l f (plc (fun x => cmpF x f) l) (plc_le _ l) (fun i hi => by
    have hil : i < l.length := Nat.lt_of_lt_of_le hi (plc_le _ l)
    exact ⟨l[i], List.getElem?_eq_getElem hil, plc_lo (fun x => cmpF x f) l i _ (List.getElem?_eq_getElem hil) hi⟩) (fun y hy => plc_at _ l y hy)]
  have e : (∃ y, l[plc (fun x => cmpF x f) l]? = some y ∧ samF y f = true) ↔ fndF (fun x => cmpF x f) l (plc (fun x => cmpF x f) l) = true := by
    unfold fndF
    cases hh : l[plc (fun x => cmpF x f) l]? with
    | none => simp
    | some y => simp [samF]
  by_cases hc : fndF (fun x => cmpF x f) l (plc (fun x => cmpF x f) l) = true
  · rw [if_pos hc, if_pos (e.2 hc)]
  · rw [if_neg hc, if_neg (fun h => hc (e.1 h))]
/-- Is one like it there? -/
def hasX (l : List Fc) (f : Fc) : Bool := l.any (fun x => decide (cmpF x f = 0))
theorem fnd_has {l : List Fc} (h : RisF l) (f : Fc) : fndF (fun x => cmpF x f) l (plc (fun x => cmpF x f) l) = hasX l f := by
  have hp := part_of h f
  unfold hasX
  rw [Bool.eq_iff_iff, List.any_eq_true]
  constructor
  · intro hf
    unfold fndF at hf
    cases hh : l[plc (fun x => cmpF x f) l]? with
    | none => rw [hh] at hf; cases hf
    | some y => rw [hh] at hf; exact ⟨y, List.mem_of_getElem? hh, hf⟩
  · rintro ⟨x, hx, hx0⟩
    obtain ⟨i, hi⟩ := List.getElem?_of_mem hx
    have hx0 := of_decide_eq_true hx0
    have hil := (List.getElem?_eq_some_iff.1 hi).1
    have h1 : plc (fun x => cmpF x f) l ≤ i := Nat.le_of_not_lt fun hlt => by have h3 : cmpF x f < 0 := hp.lo i x hi hlt; omega
    have hpl : plc (fun x => cmpF x f) l < l.length := by omega
    by_cases e : i = plc (fun x => cmpF x f) l
    · unfold fndF
      rw [← e, hi]
      exact decide_eq_true hx0
    · have h2 := risF_lt l h _ i _ x (by omega) (List.getElem?_eq_getElem hpl) hi
      have h3 := plc_at (fun x => cmpF x f) l _ (List.getElem?_eq_getElem hpl)
      have h4 := cmpF_lt_le h2 (by omega : cmpF x f ≤ 0)
      exact absurd h4 h3
/-! What does not look at places. -/
theorem plc_sh (f f' : Fc) (hf : shF f = shF f') : ∀ (l l' : List Fc), l.map shF = l'.map shF → plc (fun x => cmpF x f) l = plc (fun x => cmpF x f') l'
  | [], [], _ => rfl
  | [], _ :: _, h => by simp at h
  | _ :: _, [], h => by simp at h
  | x :: l, y :: l', h => by
    simp only [List.map_cons, List.cons.injEq] at h
    rw [plc, plc, plc_sh f f' hf l l' h.2, cmpF_like h.1 hf]
theorem fnd_sh {f f' : Fc} (hf : shF f = shF f') {l l' : List Fc} (h : l.map shF = l'.map shF) (j : Nat) : fndF (fun x => cmpF x f) l j = fndF (fun x => cmpF x f') l' j := by
  have e := congrArg (fun l => l[j]?) h
  simp only [List.getElem?_map] at e
  unfold fndF
  cases h1 : l[j]? with
  | none =>
    rw [h1] at e
    cases h2 : l'[j]? with
    | none => rfl
    | some y => rw [h2] at e; cases e
  | some x =>
    rw [h1] at e
    cases h2 : l'[j]? with
    | none => rw [h2] at e; cases e
    | some y =>
      rw [h2] at e
      simp only [Option.map_some, Option.some.injEq] at e
      show decide (cmpF x f = 0) = decide (cmpF y f' = 0)
      rw [cmpF_like e hf]
theorem risF_sh : ∀ {l l' : List Fc}, l.map shF = l'.map shF → RisF l → RisF l'
  | [], [], _, _ => trivial
  | [], _ :: _, h, _ => by simp at h
  | _ :: _, [], h, _ => by simp at h
  | x :: l, y :: l', h, hr => by
    simp only [List.map_cons, List.cons.injEq] at h
    refine ⟨fun z hz => ?_, risF_sh h.2 hr.2⟩
    have hm : shF z ∈ l'.map shF := List.mem_map_of_mem hz
    rw [← h.2, List.mem_map] at hm
    obtain ⟨z', hz', e⟩ := hm
    rw [← cmpF_like h.1 e]
    exact hr.1 z' hz'
theorem has_sh {f f' : Fc} (hf : shF f = shF f') {l l' : List Fc} (h : l.map shF = l'.map shF) : hasX l f = hasX l' f' := by
  unfold hasX
  have e : ∀ (l : List Fc) (f : Fc), l.any (fun x => decide (cmpF x f = 0)) = (l.map shF).any (fun x => decide (cmpF x (shF f) = 0)) := fun l f => by
    rw [List.any_map]
    congr 1
    funext x
    show decide (cmpF x f = 0) = decide (cmpF (shF x) (shF f) = 0)
    rw [cmpF_sh]
  rw [e l f, e l' f', h, hf]
/-- A store of the facts X that a fact is added to. -/
noncomputable def addX (X : List Fc) (f : Fc) : List Fc := if okF f = true then insF X (shF f) else X
noncomputable def addB (X : List Fc) (f : Fc) : Bool := okF f && !hasX X f
theorem addX_ris {X : List Fc} (h : RisF X) (f : Fc) : RisF (addX X f) := by
  unfold addX
  split
  · exact insF_ris X _ h
  · exact h
theorem shF_shF (f : Fc) : shF (shF f) = shF f := by
  unfold shF
  simp only [List.map_map]
  congr 1
/-- What is added, told by its place. -/
theorem addX_yes {X : List Fc} (hr : RisF X) {f : Fc} (h : addB X f = true) : addX X f = X.take (plc (fun x => cmpF x f) X) ++ shF f :: X.drop (plc (fun x => cmpF x f) X) := by
  unfold addB at h
  simp only [Bool.and_eq_true, Bool.not_eq_true'] at h
  have e := plc_sh (shF f) f (shF_shF f) X X rfl
  unfold addX
  rw [if_pos h.1, ins_plc, fnd_has hr, e, has_sh (f := shF f) (f' := f) (l := X) (l' := X) (shF_shF f) rfl, h.2]
  rfl
theorem addX_no {X : List Fc} (hr : RisF X) {f : Fc} (h : addB X f = false) : addX X f = X := by
  unfold addX
  unfold addB at h
  split
  · rename_i h1
    rw [h1, Bool.true_and] at h
    rw [ins_plc, fnd_has hr, has_sh (f := shF f) (f' := f) (l := X) (l' := X) (shF_shF f) rfl, if_pos (by simpa using h)]
  · rfl
end Go.Proofs.Ythpioncehigoaaa
