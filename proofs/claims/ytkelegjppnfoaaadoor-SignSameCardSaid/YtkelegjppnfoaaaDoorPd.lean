/-
  Joined of texts of mine, in build order: Fl, Bd, Na, Nb, Nc, Nd, Ne, Nf, Ng, Nh, Be, Bf, Bk. Each says what it proves at its own head.
-/
import Derived.Test.YtkelegjppnfoaaaDoorPc
set_option linter.unusedSimpArgs false
set_option linter.unusedVariables false

/-
  A region that draws its order, in which new variables float beside a row of calls: wherever they come up, the row is walked once.
  No program is named here.
-/
namespace Go.Proofs.YtkelegjppnfoaaaDoor
open Go.RowKit

section
variable {P : Program} {ops : Array Oper} {Q : Exit → Act → World → Prop} {md : Region.Mode} {lt : Nat → Bool}

def dstOf (ops : Array Oper) (i : Nat) : Option Tmp := (ops[i]?).bind (·.dst)
/-- The new variables' pointers laid into a frame. -/
def putsG (ops : Array Oper) (G : Nat → Nat) (ds : List Nat) (a : Act) : Act := ds.foldl (fun a i => a.put (dstOf ops i) (.pointer (some ⟨G i, 0, none⟩))) a
theorem putsG_cons (G : Nat → Nat) (i : Nat) (ds : List Nat) (a : Act) : putsG ops G (i :: ds) a = putsG ops G ds (a.put (dstOf ops i) (.pointer (some ⟨G i, 0, none⟩))) := rfl
theorem putsG_congr {G G' : Nat → Nat} : ∀ {ds : List Nat} {a : Act}, (∀ i ∈ ds, G i = G' i) → putsG ops G ds a = putsG ops G' ds a
  | [], _, _ => rfl
  | i :: ds, a, h => by
    rw [putsG_cons, putsG_cons, h i (List.mem_cons_self ..)]
    exact putsG_congr fun j hj => h j (List.mem_cons_of_mem _ hj)
theorem putsG_put (G : Nat → Nat) (t : Option Tmp) (v : Value) : ∀ (ds : List Nat) (a : Act), (∀ i ∈ ds, ∀ d, dstOf ops i = some d → t ≠ some d) → (putsG ops G ds a).put t v = putsG ops G ds (a.put t v)
  | [], _, _ => rfl
  | i :: ds, a, h => by
    rw [putsG_cons, putsG_cons, putsG_put G t v ds _ fun j hj => h j (List.mem_cons_of_mem _ hj)]
    rw [Act.put_comm a _ v (h i (List.mem_cons_self ..))]
def setAll (l : Array Bool) (ds : List Nat) : Array Bool := ds.foldl (fun l i => l.setIfInBounds i true) l
theorem setAll_cons (l : Array Bool) (i : Nat) (ds : List Nat) : setAll l (i :: ds) = setAll (l.setIfInBounds i true) ds := rfl
theorem set_comm (l : Array Bool) (i j : Nat) : (l.setIfInBounds i true).setIfInBounds j true = (l.setIfInBounds j true).setIfInBounds i true := by
  by_cases h : i = j
  · rw [h]
  · rw [Array.setIfInBounds_comm _ _ h]
theorem setAll_set (i : Nat) : ∀ (ds : List Nat) (l : Array Bool), (setAll l ds).setIfInBounds i true = setAll (l.setIfInBounds i true) ds
  | [], _ => rfl
  | j :: ds, l => by rw [setAll_cons, setAll_cons, setAll_set i ds, set_comm]
theorem set_getD (l : Array Bool) (i j : Nat) (d : Bool) : (l.setIfInBounds i true).getD j d = if i = j ∧ j < l.size then true else l.getD j d := by
  simp only [Array.getD_eq_getD_getElem?, Array.getElem?_setIfInBounds]
  by_cases h : i = j
  · subst h
    by_cases h2 : i < l.size
    · simp [h2]
    · simp [h2]
  · simp [h]
theorem setAll_size : ∀ (ds : List Nat) (l : Array Bool), (setAll l ds).size = l.size
  | [], _ => rfl
  | i :: ds, l => by rw [setAll_cons, setAll_size ds, Array.size_setIfInBounds]
theorem setAll_getD (d : Bool) (j : Nat) : ∀ (ds : List Nat) (l : Array Bool), (setAll l ds).getD j d = if j ∈ ds ∧ j < l.size then true else l.getD j d
  | [], l => by simp [setAll]
  | i :: ds, l => by
    rw [setAll_cons, setAll_getD d j ds, set_getD, Array.size_setIfInBounds]
    by_cases h1 : j ∈ ds ∧ j < l.size
    · rw [if_pos h1, if_pos ⟨List.mem_cons_of_mem _ h1.1, h1.2⟩]
    · rw [if_neg h1]
      by_cases h2 : i = j ∧ j < l.size
      · rw [if_pos h2, if_pos ⟨by rw [h2.1]; exact List.mem_cons_self .., h2.2⟩]
      · rw [if_neg h2, if_neg fun h => ?_]
        rcases List.mem_cons.1 h.1 with e | e
        · exact h2 ⟨e.symm, h.2⟩
        · exact h1 ⟨e, h.2⟩

/-! A frame with a slot more. -/
theorem wp_put1 {o : Oper} {a : Act} {d : Option Tmp} {v : Value} {x : World} {K : Act → World → Prop} (hs : ∀ cs b, o.op ≠ .select cs b) (h1 : ∀ t, d = some t → t ∉ o.looksAt ops) (h2 : ∀ t, d = some t → o.dst ≠ some t)
    (hQ : ∀ c (a : Act) (t : Array Value) w, Q (.panic c) { a with tmps := t } w → Q (.panic c) a w) (h : o.wp P a x K Q) : o.wp P (a.put d v) x (fun a'' w' => ∃ a', a'' = a'.put d v ∧ K a' w') Q := by
  have hp : ∀ c w, Q (.panic c) a w → Q (.panic c) (a.put d v) w := fun c w h => by
    refine hQ c _ a.tmps w ?_
    cases d with
    | none => exact h
    | some d => exact h
  unfold Oper.wp at *
  rw [execOp_put o hs a d v h1]
  generalize (execOp a.eval o).run P x = r at *
  cases r with
  | ok n w' =>
    cases n <;> simp only [Oper.upon] at h ⊢
    case value u => exact ⟨_, Act.put_comm a v u h2, h⟩
    case skip => exact ⟨_, Act.put_comm a v undef h2, h⟩
    case defer e => exact ⟨_, by rw [Act.put_defers, Act.put_comm _ v undef h2], h⟩
    case enter f args =>
      refine Calls.mono h fun e w'' he => ?_
      cases e with
      | returned u => exact ⟨_, Act.put_comm a v u h2, he⟩
      | panicked c => exact hp _ _ he
      | outgrown => exact he
    case row row args => exact Rows.mono h fun u w'' he => ⟨_, Act.put_comm a v u h2, he⟩
  | halt z w' =>
    cases z <;> simp only [Oper.upon] at h ⊢
    case panic u => exact hp _ _ h
/-- An operation that has nothing to do with the new variables. -/
def apF (ops : Array Oper) (F : List Nat) (o : Oper) : Bool := F.all fun f => match dstOf ops f with
  | none => true
  | some d => !(o.looksAt ops).contains d && o.dst != some d
theorem apF_spec {F : List Nat} {o : Oper} (h : apF ops F o = true) : ∀ f ∈ F, ∀ t, dstOf ops f = some t → t ∉ o.looksAt ops ∧ o.dst ≠ some t := fun f hf t ht => by
  have := List.all_eq_true.1 h f hf
  rw [ht] at this
  simpa using this
theorem wp_puts {o : Oper} {x : World} (G : Nat → Nat) (hs : ∀ cs b, o.op ≠ .select cs b) (hQ : ∀ c (a : Act) (t : Array Value) w, Q (.panic c) { a with tmps := t } w → Q (.panic c) a w) :
    ∀ (ds : List Nat) (a : Act) (K : Act → World → Prop), (∀ f ∈ ds, ∀ t, dstOf ops f = some t → t ∉ o.looksAt ops ∧ o.dst ≠ some t) → o.wp P a x K Q → o.wp P (putsG ops G ds a) x (fun a'' w' => ∃ a', a'' = putsG ops G ds a' ∧ K a' w') Q
  | [], a, K, _, h => Oper.wp_mono (fun a' w' h' => ⟨a', rfl, h'⟩) h
  | i :: ds, a, K, hd, h => by
    have h1 := wp_put1 (ops := ops) (v := .pointer (some ⟨G i, 0, none⟩)) hs (fun t ht => (hd i (List.mem_cons_self ..) t ht).1) (fun t ht => (hd i (List.mem_cons_self ..) t ht).2) hQ h
    exact Oper.wp_mono (fun a'' w' ⟨a1, e1, a', e2, h'⟩ => ⟨a', by rw [e1, e2]; rfl, h'⟩) (wp_puts G hs hQ ds _ _ (fun f hf => hd f (List.mem_cons_of_mem _ hf)) h1)
theorem wanted_puts {o : Oper} (G : Nat → Nat) : ∀ (ds : List Nat) (a : Act), (∀ f ∈ ds, ∀ t, dstOf ops f = some t → t ∉ o.looksAt ops ∧ o.dst ≠ some t) → Region.wanted o (yielded ops (putsG ops G ds a).tmps) = Region.wanted o (yielded ops a.tmps)
  | [], _, _ => rfl
  | i :: ds, a, h => by
    rw [putsG_cons, wanted_puts G ds _ fun f hf => h f (List.mem_cons_of_mem _ hf)]
    exact wanted_put o a _ _ fun t ht => (h i (List.mem_cons_self ..) t ht).1
theorem exec_puts {o : Oper} (G : Nat → Nat) (hs : ∀ cs b, o.op ≠ .select cs b) : ∀ (ds : List Nat) (a : Act), (∀ f ∈ ds, ∀ t, dstOf ops f = some t → t ∉ o.looksAt ops ∧ o.dst ≠ some t) → execOp (putsG ops G ds a).eval o = execOp a.eval o
  | [], _, _ => rfl
  | i :: ds, a, h => by
    rw [putsG_cons, exec_puts G hs ds _ fun f hf => h f (List.mem_cons_of_mem _ hf)]
    exact execOp_put o hs a _ _ fun t ht => (h i (List.mem_cons_self ..) t ht).1

/-! The row of calls. -/
structure FlAt (W0 : World) (F : List Nat) (cs : Array Value) (e : TypeId) (G : Nat → Nat) (x : World) : Prop where
  at_ : ∀ f ∈ F, W0.heap.size ≤ G f ∧ x.heap[G f]? = some (.cells cs e (0, 0))
  ne : ∀ f ∈ F, ∀ g ∈ F, f ≠ g → G f ≠ G g
def wpX (P : Program) (ops : Array Oper) (Q : Exit → Act → World → Prop) (W0 : World) (F : List Nat) (cs : Array Value) (e : TypeId) (suf : STr) : List (Nat × Nat) → Act → World → Prop
  | [], a, w => ∀ (G : Nat → Nat) (x : World), From W0 x → From w x → FlAt W0 F cs e G x → wpS P ops Q W0 suf (putsG ops G F a) x
  | (i, m) :: rest, a, w => ∃ o, ops[i]? = some o ∧
    if Region.wanted o (yielded ops a.tmps) = true then
      (match m with
       | 0 => ∃ v, (∀ x, From W0 x → (execOp a.eval o).run P x = .ok (.value v) x) ∧ wpX P ops Q W0 F cs e suf rest (a.put o.dst v) w
       | 1 => ∃ v, (∀ x, (execOp a.eval o).run P x = .ok (.value v) x) ∧ wpX P ops Q W0 F cs e suf rest (a.put o.dst v) w
       | _ => ∀ x, From w x → o.wp P a x (fun a' w' => FromT x w' (wpX P ops Q W0 F cs e suf rest a' w')) Q)
    else wpX P ops Q W0 F cs e suf rest (a.put o.dst undef) w
def schedX (md : Region.Mode) (ops : Array Oper) (lt : Nat → Bool) (F : List Nat) (suf : STr) : List (Nat × Nat) → Array Bool → Bool
  | [], lo => F.all (fun f => Region.ready md ops (setAll lo (F.filter (fun g => g != f))) == [f]) && schedS md ops lt true suf (setAll lo F)
  | (i, m) :: rest, lo => !F.contains i && !lt i && ((ops[i]?).map (apF ops F)).getD false && (match m with
      | 0 => (Region.ready md ops lo).contains i && Region.free md ops lo i && lateB md ops lt i
      | 1 => (Region.ready md ops lo).contains i && Region.free md ops lo i
      | _ => Region.ready md ops (setAll lo F) == [i]) && schedX md ops lt F suf rest (lo.setIfInBounds i true)
theorem ready_less {lo : Array Bool} {ds F : List Nat} {j : Nat} (hd : ∀ f ∈ ds, f ∈ F) (hj : j ∉ F) (h : j ∈ Region.ready md ops (setAll lo ds)) : j ∈ Region.ready md ops (setAll lo F) := by
  obtain ⟨h1, o, ho, h2⟩ := mem_ready.1 h
  refine mem_ready.2 ⟨?_, o, ho, fun e he hb => ?_⟩
  · rw [setAll_getD] at h1 ⊢
    rw [if_neg fun h => hj h.1]
    split at h1
    · cases h1
    · exact h1
  · have := h2 e he hb
    rw [setAll_getD] at this ⊢
    split at this
    · rename_i h
      rw [if_pos ⟨hd _ h.1, h.2⟩]
    · split
      · rfl
      · exact this
theorem ready_more {lo : Array Bool} {ds : List Nat} {j : Nat} (hj : j ∉ ds) (h : j ∈ Region.ready md ops lo) : j ∈ Region.ready md ops (setAll lo ds) := by
  obtain ⟨h1, o, ho, h2⟩ := mem_ready.1 h
  refine mem_ready.2 ⟨?_, o, ho, fun e he hb => ?_⟩
  · rw [setAll_getD, if_neg fun h => hj h.1]
    exact h1
  · rw [setAll_getD]
    split
    · rfl
    · exact h2 e he hb
/-- How many floats are left. -/
def leftF (F : List Nat) (D : Nat → Bool) : Nat := (F.filter (fun f => !D f)).length
def addD (D : Nat → Bool) (f : Nat) : Nat → Bool := fun g => D g || g == f
theorem filter_add {D : Nat → Bool} {f : Nat} : ∀ {F : List Nat}, f ∉ F → F.filter (addD D f) = F.filter D
  | [], _ => rfl
  | g :: F, h => by
    have hg : (g == f) = false := by rw [beq_eq_false_iff_ne]; exact fun e => h (by rw [e]; exact List.mem_cons_self ..)
    rw [List.filter_cons, List.filter_cons, filter_add fun h' => h (List.mem_cons_of_mem _ h')]
    unfold addD
    rw [hg, Bool.or_false]
theorem puts_add (G : Nat → Nat) {D : Nat → Bool} {f : Nat} (hD : D f = false) : ∀ {F : List Nat} {a : Act}, F.Nodup → f ∈ F → (∀ g ∈ F, ∀ h ∈ F, g ≠ h → ∀ d, dstOf ops g = some d → dstOf ops h ≠ some d) →
    putsG ops G (F.filter (addD D f)) a = (putsG ops G (F.filter D) a).put (dstOf ops f) (.pointer (some ⟨G f, 0, none⟩))
  | [], _, _, hf, _ => by cases hf
  | g :: F, a, hn, hf, hd => by
    obtain ⟨hg, hn'⟩ := List.nodup_cons.1 hn
    by_cases e : g = f
    · subst e
      have h1 : addD D g g = true := by unfold addD; simp
      rw [List.filter_cons, if_pos h1, filter_add hg, List.filter_cons, if_neg (by rw [hD]; exact Bool.false_ne_true), putsG_cons]
      exact (putsG_put G _ _ _ a fun i hi d h' => hd i (List.mem_cons_of_mem _ ((List.mem_filter.1 hi).1)) g (List.mem_cons_self ..) (fun e => hg (e ▸ (List.mem_filter.1 hi).1)) d h').symm
    · have hf' : f ∈ F := by
        rcases List.mem_cons.1 hf with h | h
        · exact absurd h.symm e
        · exact h
      have h1 : addD D f g = D g := by unfold addD; rw [beq_eq_false_iff_ne.2 e, Bool.or_false]
      rw [List.filter_cons, List.filter_cons, h1]
      have ih := fun a => puts_add G hD (F := F) (a := a) hn' hf' fun i hi j hj => hd i (List.mem_cons_of_mem _ hi) j (List.mem_cons_of_mem _ hj)
      split
      · rw [putsG_cons, putsG_cons]
        exact ih _
      · exact ih _
theorem set_add {D : Nat → Bool} {f : Nat} (hD : D f = false) : ∀ {F : List Nat} {l : Array Bool}, F.Nodup → f ∈ F → setAll l (F.filter (addD D f)) = (setAll l (F.filter D)).setIfInBounds f true
  | [], _, _, hf => by cases hf
  | g :: F, l, hn, hf => by
    obtain ⟨hg, hn'⟩ := List.nodup_cons.1 hn
    by_cases e : g = f
    · subst e
      have h1 : addD D g g = true := by unfold addD; simp
      rw [List.filter_cons, if_pos h1, filter_add hg, List.filter_cons, if_neg (by rw [hD]; exact Bool.false_ne_true), setAll_cons, setAll_set]
    · have hf' : f ∈ F := by
        rcases List.mem_cons.1 hf with h | h
        · exact absurd h.symm e
        · exact h
      have h1 : addD D f g = D g := by unfold addD; rw [beq_eq_false_iff_ne.2 e, Bool.or_false]
      rw [List.filter_cons, List.filter_cons, h1]
      split
      · rw [setAll_cons, setAll_cons]
        exact set_add hD hn' hf'
      · exact set_add hD hn' hf'
theorem left_add {D : Nat → Bool} {f : Nat} (hD : D f = false) : ∀ {F : List Nat}, F.Nodup → f ∈ F → leftF F (addD D f) + 1 = leftF F D
  | [], _, hf => by cases hf
  | g :: F, hn, hf => by
    obtain ⟨hg, hn'⟩ := List.nodup_cons.1 hn
    unfold leftF
    by_cases e : g = f
    · subst e
      have h1 : addD D g g = true := by unfold addD; simp
      have h2 : F.filter (fun f => !addD D g f) = F.filter (fun f => !D f) := List.filter_congr fun x hx => by
        have : (x == g) = false := by rw [beq_eq_false_iff_ne]; exact fun e => hg (e ▸ hx)
        unfold addD
        rw [this, Bool.or_false]
      rw [List.filter_cons, List.filter_cons, h1, hD, h2]
      rfl
    · have hf' : f ∈ F := by
        rcases List.mem_cons.1 hf with h | h
        · exact absurd h.symm e
        · exact h
      have h1 : addD D f g = D g := by unfold addD; rw [beq_eq_false_iff_ne.2 e, Bool.or_false]
      have ih := left_add hD hn' hf'
      unfold leftF at ih
      rw [List.filter_cons, List.filter_cons, h1]
      split
      · rw [List.length_cons, List.length_cons]; omega
      · exact ih
theorem left_zero {D : Nat → Bool} {F : List Nat} (h : leftF F D = 0) : F.filter D = F := by
  refine List.filter_eq_self.2 fun f hf => ?_
  have h1 := List.filter_eq_nil_iff.1 (List.eq_nil_of_length_eq_zero h) f hf
  simpa using h1
theorem left_pos {D : Nat → Bool} {F : List Nat} (h : leftF F D ≠ 0) : ∃ f ∈ F, D f = false := by
  unfold leftF at h
  obtain ⟨f, hf⟩ := List.exists_mem_of_length_pos (Nat.pos_of_ne_zero h)
  obtain ⟨h1, h2⟩ := List.mem_filter.1 hf
  exact ⟨f, h1, by simpa using h2⟩
/-- What is asked of the floats. -/
structure Floats (P : Program) (md : Region.Mode) (ops : Array Oper) (lt : Nat → Bool) (F : List Nat) (cs : Array Value) (e : TypeId) : Prop where
  op : ∀ f ∈ F, ∃ o, ops[f]? = some o ∧ o.guard = none ∧ (∀ e ∈ o.after, Region.binds md e = false) ∧ ∀ (ev : Operand → Value) (x : World), (execOp ev o).run P x = .ok (.value (.pointer (some ⟨x.heap.size, 0, none⟩))) (x.alloc (.cells cs e))
  early : ∀ f ∈ F, lt f = false
  nodup : F.Nodup
  dst : ∀ g ∈ F, ∀ h ∈ F, g ≠ h → ∀ d, dstOf ops g = some d → dstOf ops h ≠ some d
theorem wpM_of_X {W0 : World} {F : List Nat} {cs : Array Value} {e : TypeId} {suf : STr} (hF : Floats P md ops lt F cs e) (hs : Region.noSelect ops = true) (hQ : ∀ c (a : Act) (t : Array Value) w, Q (.panic c) { a with tmps := t } w → Q (.panic c) a w) :
    ∀ (n : Nat) (chain : List (Nat × Nat)) (D : Nat → Bool) (G : Nat → Nat) (lo : Array Bool) (a : Act) (w x : World) (fuel : Nat), chain.length + leftF F D = n → n + suf.len ≤ fuel → schedX md ops lt F suf chain lo = true →
      (∀ f ∈ F, lo.getD f true = false) → From W0 w → From w x → FlAt W0 (F.filter D) cs e G x → wpX P ops Q W0 F cs e suf chain a w → wpM P md ops Q lt fuel (From W0) (setAll lo (F.filter D)) (putsG ops G (F.filter D) a) x := by
  intro n
  induction n with
  | zero =>
    intro chain D G lo a w x fuel hn hfu hb hlo hW0 hx hG h
    obtain rfl : chain = [] := List.eq_nil_of_length_eq_zero (by omega)
    have hl := left_zero (F := F) (D := D) (by omega)
    rw [hl] at hG ⊢
    unfold schedX at hb
    rw [Bool.and_eq_true] at hb
    exact wpM_of_S hs hQ suf fuel _ _ _ (hW0.trans (hx.mono hW0.size)) (by omega) hb.2 (h G x (hW0.trans (hx.mono hW0.size)) hx hG)
  | succ n ih =>
    intro chain D G lo a w x fuel hn hfu hb hlo hW0 hx hG h
    obtain ⟨fuel, rfl⟩ : ∃ k, fuel = k + 1 := ⟨fuel - 1, by omega⟩
    have hsub : ∀ f ∈ F.filter D, f ∈ F := fun f hf => (List.mem_filter.1 hf).1
    have hout : ∀ {i}, F.contains i = false → i ∉ F.filter D := fun hi hm => by
      have := hsub _ hm
      simp at hi
      exact hi this
    -- a float that comes up
    have float : ∀ f ∈ F, f ∈ Region.ready md ops (setAll lo (F.filter D)) → wpOp P ops Q f (fun a' w' => (lt f = true ∧ wpAny P md ops Q fuel ((setAll lo (F.filter D)).setIfInBounds f true) a' w') ∨
        (lt f = false ∧ ∃ S' : World → Prop, (∀ y, S' y → From W0 y) ∧ S' w' ∧ wpM P md ops Q lt fuel S' ((setAll lo (F.filter D)).setIfInBounds f true) a' w')) (putsG ops G (F.filter D) a) x := by
      intro f hf hr
      have hDf : D f = false := by
        cases hD : D f with
        | false => rfl
        | true =>
          have h1 := (mem_ready.1 hr).1
          rw [setAll_getD] at h1
          split at h1
          · cases h1
          · rename_i h2
            exact absurd ⟨List.mem_filter.2 ⟨hf, hD⟩, Decidable.byContradiction fun hs => by
              rw [Array.getD_eq_getD_getElem?, Array.getElem?_eq_none (by omega)] at h1
              cases h1⟩ h2
      obtain ⟨o, ho, hg, _, hrun⟩ := hF.op f hf
      unfold wpOp
      simp only [ho]
      have hw : Region.wanted o (yielded ops (putsG ops G (F.filter D) a).tmps) = true := by unfold Region.wanted; rw [hg]
      rw [if_pos hw]
      refine .inl ?_
      unfold Oper.wp
      rw [hrun]
      refine .inr ⟨hF.early f hf, From W0, fun _ h => h, hW0.trans ((hx.trans (((Below.refl _ _).alloc (Nat.le_refl _) _).mono hx.size)).mono hW0.size), ?_⟩
      have hodst : o.dst = dstOf ops f := by unfold dstOf; rw [ho]; rfl
      have hxs : W0.heap.size ≤ x.heap.size := Nat.le_trans hW0.size hx.size
      have hGf : ∀ g ∈ F.filter D, (fun g => if g = f then x.heap.size else G g) g = G g := fun g hg => if_neg fun e => by
        have := (List.mem_filter.1 hg).2
        rw [e, hDf] at this
        cases this
      have e1 := puts_add (ops := ops) (a := a) (fun g => if g = f then x.heap.size else G g) hDf hF.nodup hf hF.dst
      rw [putsG_congr hGf, if_pos rfl] at e1
      have e2 := set_add (l := lo) hDf hF.nodup hf
      have e3 := left_add hDf hF.nodup hf
      have hsz : (x.alloc (.cells cs e)).heap.size = x.heap.size + 1 := by show (x.heap.push _).size = _; simp
      rw [hodst, ← e1, ← e2]
      refine ih chain (addD D f) _ lo a w _ fuel (by omega) (by omega) hb hlo hW0 (hx.trans (((Below.refl _ _).alloc (Nat.le_refl _) _).mono hx.size)) ⟨fun g hg => ?_, fun g hg g' hg' hne => ?_⟩ h
      · by_cases egf : g = f
        · subst egf
          rw [if_pos rfl]
          exact ⟨by omega, heap_alloc_new x _⟩
        · rw [if_neg egf]
          have hg1 : g ∈ F.filter D := by
            obtain ⟨q1, q2⟩ := List.mem_filter.1 hg
            unfold addD at q2
            rw [beq_eq_false_iff_ne.2 egf, Bool.or_false] at q2
            exact List.mem_filter.2 ⟨q1, q2⟩
          obtain ⟨q1, q2⟩ := hG.at_ g hg1
          exact ⟨q1, (Below.block ((Below.refl x.heap.size x).alloc (Nat.le_refl _) (.cells cs e)) _ (Array.getElem?_eq_some_iff.1 q2).1).trans q2⟩
      · have lt_of : ∀ z, z ∈ F.filter (addD D f) → z ≠ f → z ∈ F.filter D ∧ G z < x.heap.size := fun z hz hzf => by
          have hz1 : z ∈ F.filter D := by
            obtain ⟨q1, q2⟩ := List.mem_filter.1 hz
            unfold addD at q2
            rw [beq_eq_false_iff_ne.2 hzf, Bool.or_false] at q2
            exact List.mem_filter.2 ⟨q1, q2⟩
          exact ⟨hz1, (Array.getElem?_eq_some_iff.1 (hG.at_ z hz1).2).1⟩
        by_cases egf : g = f
        · have := lt_of g' hg' fun e' => hne (egf.trans e'.symm)
          rw [if_pos egf, if_neg fun e' => hne (egf.trans e'.symm)]
          omega
        · by_cases egf' : g' = f
          · have := lt_of g hg egf
            rw [if_neg egf, if_pos egf']
            omega
          · rw [if_neg egf, if_neg egf']
            exact hG.ne g (lt_of g hg egf).1 g' (lt_of g' hg' egf').1 hne
    have pending : ∀ f ∈ F, D f = false → f ∈ Region.ready md ops (setAll lo (F.filter D)) := fun f hf hD => by
      obtain ⟨o, ho, _, hnb, _⟩ := hF.op f hf
      refine mem_ready.2 ⟨?_, o, ho, fun e he hb => ?_⟩
      · rw [setAll_getD, if_neg fun h => ?_]
        · exact hlo f hf
        · have := (List.mem_filter.1 h.1).2
          rw [hD] at this
          cases this
      · rw [hnb e he] at hb
        cases hb
    match chain, hb, h, hn with
    | [], hb, h, hn =>
      unfold schedX at hb
      rw [Bool.and_eq_true, List.all_eq_true] at hb
      obtain ⟨f0, hf0, hD0⟩ := left_pos (F := F) (D := D) (by simp at hn; omega)
      have hrd := hb.1 f0 hf0
      rw [beq_iff_eq] at hrd
      have hsub2 : ∀ f ∈ F.filter D, f ∈ F.filter (fun g => g != f0) := fun f hf => by
        obtain ⟨q1, q2⟩ := List.mem_filter.1 hf
        refine List.mem_filter.2 ⟨q1, ?_⟩
        rw [bne_iff_ne]
        intro e
        rw [e, hD0] at q2
        cases q2
      have only : ∀ j, j ∈ Region.ready md ops (setAll lo (F.filter D)) → j ∈ F := fun j hj => by
        refine Classical.byContradiction fun hjF => ?_
        have := ready_less hsub2 (fun h' => hjF ((List.mem_filter.1 h').1)) hj
        rw [hrd, List.mem_singleton] at this
        exact hjF (this ▸ hf0)
      refine ⟨fun h0 => ?_, fun j hj => float j (only j hj) hj⟩
      have h1 := pending f0 hf0 hD0
      rw [h0] at h1
      cases h1
    | (i, m) :: rest, hb, h, hn =>
      obtain ⟨o, ho, h⟩ := h
      unfold schedX at hb
      simp only [Bool.and_eq_true, Bool.not_eq_true'] at hb
      obtain ⟨⟨⟨⟨hiF, hli⟩, hap⟩, hm⟩, hrec⟩ := hb
      have hap' : apF ops F o = true := by rw [ho] at hap; exact hap
      have hspec := fun f (hf : f ∈ F.filter D) => apF_spec hap' f (hsub f hf)
      have hsel := Region.noSelect_spec hs
      have hne : ∀ f ∈ F, i ≠ f := fun f hf e => by
        rw [e] at hiF
        simp at hiF
        exact hiF hf
      have hlo' : ∀ f ∈ F, (lo.setIfInBounds i true).getD f true = false := fun f hf => by
        rw [set_getD, if_neg fun h => hne f hf h.1]
        exact hlo f hf
      have hw := wanted_puts (o := o) G (F.filter D) a hspec
      have hex := exec_puts (o := o) G (fun cs b => hsel i o cs b ho) (F.filter D) a hspec
      have hpt : ∀ v, (putsG ops G (F.filter D) a).put o.dst v = putsG ops G (F.filter D) (a.put o.dst v) := fun v => putsG_put G _ v _ a (fun f hf d hd => (hspec f hf d hd).2)
      have hst := setAll_set i (F.filter D) lo
      have hn' : rest.length + leftF F D = n := by simp at hn; omega
      have next : ∀ v, wpX P ops Q W0 F cs e suf rest (a.put o.dst v) w → wpM P md ops Q lt fuel (From W0) ((setAll lo (F.filter D)).setIfInBounds i true) ((putsG ops G (F.filter D) a).put o.dst v) x := fun v h => by
        rw [hpt, hst]
        exact ih rest D G _ _ w x fuel hn' (by omega) hrec hlo' hW0 hx hG h
      have first : ∀ v, i ∈ Region.ready md ops lo → Region.free md ops lo i = true → ((lateB md ops lt i = true ∧ YieldsIf P ops (From W0) o v (putsG ops G (F.filter D) a)) ∨ Yields P ops o v (putsG ops G (F.filter D) a)) → wpX P ops Q W0 F cs e suf rest (a.put o.dst v) w →
          wpM P md ops Q lt (fuel + 1) (From W0) (setAll lo (F.filter D)) (putsG ops G (F.filter D) a) x := fun v hr hf hy h =>
        wpM_first ho hsel (hput hQ o v) fuel (From W0) _ _ _ (fun j oj hj hji hun hno => Region.free_spec ho hf j oj hj hji (by
          rw [setAll_getD] at hun
          split at hun
          · cases hun
          · exact hun) hno) (ready_more (hout hiF) hr) hy (hW0.trans (hx.mono hW0.size)) (next v h) hli
      match m, h, hm with
      | 0, h, hm =>
        simp only [Bool.and_eq_true] at hm
        by_cases hwa : Region.wanted o (yielded ops a.tmps) = true
        · rw [if_pos hwa] at h
          obtain ⟨v, hv, h⟩ := h
          exact first v (by simpa using hm.1.1) hm.1.2 (.inl ⟨hm.2, .inl ⟨hw.trans hwa, fun y hy => by rw [hex]; exact hv y hy⟩⟩) h
        · rw [if_neg hwa] at h
          exact first undef (by simpa using hm.1.1) hm.1.2 (.inr (.inr ⟨hw.trans (by simpa using hwa), rfl⟩)) h
      | 1, h, hm =>
        simp only [Bool.and_eq_true] at hm
        by_cases hwa : Region.wanted o (yielded ops a.tmps) = true
        · rw [if_pos hwa] at h
          obtain ⟨v, hv, h⟩ := h
          exact first v (by simpa using hm.1) hm.2 (.inr (.inl ⟨hw.trans hwa, fun y => by rw [hex]; exact hv y⟩)) h
        · rw [if_neg hwa] at h
          exact first undef (by simpa using hm.1) hm.2 (.inr (.inr ⟨hw.trans (by simpa using hwa), rfl⟩)) h
      | m + 2, h, hm =>
        have hm : (Region.ready md ops (setAll lo F) == [i]) = true := hm
        rw [beq_iff_eq] at hm
        refine ⟨fun h0 => ?_, fun j hj => ?_⟩
        · by_cases hz : leftF F D = 0
          · rw [left_zero hz, hm] at h0
            cases h0
          · obtain ⟨f0, hf0, hD0⟩ := left_pos hz
            have h1 := pending f0 hf0 hD0
            rw [h0] at h1
            cases h1
        · by_cases hjF : j ∈ F
          · exact float j hjF hj
          · have hji := ready_less hsub hjF hj
            rw [hm, List.mem_singleton] at hji
            subst hji
            unfold wpOp
            simp only [ho]
            by_cases hwa : Region.wanted o (yielded ops a.tmps) = true
            · rw [if_pos (hw.trans hwa)]
              rw [if_pos hwa] at h
              refine .inl (Oper.wp_mono (fun a'' w' h' => ?_) (wp_puts G (fun cs b => hsel j o cs b ho) hQ (F.filter D) a _ hspec (h x hx)))
              obtain ⟨a', rfl, hb', h'⟩ := h'
              refine .inr ⟨hli, From W0, fun _ h => h, hW0.trans ((hx.trans (hb'.mono hx.size)).mono hW0.size), ?_⟩
              rw [hst]
              exact ih rest D G _ a' w' w' fuel hn' (by omega) hrec hlo' (hW0.trans ((hx.trans (hb'.mono hx.size)).mono hW0.size)) (From.refl w') ⟨fun f hf => ⟨(hG.at_ f hf).1, (hb'.block _ (Array.getElem?_eq_some_iff.1 (hG.at_ f hf).2).1).trans (hG.at_ f hf).2⟩, hG.ne⟩ h'
            · rw [if_neg (fun h => hwa (hw.symm.trans h))]
              rw [if_neg hwa] at h
              exact .inr ⟨hli, From W0, fun _ h => h, hW0.trans (hx.mono hW0.size), next undef h⟩
/-- The same with the slots said. -/
def putsE (G : Nat → Nat) (F : List (Nat × Nat)) (a : Act) : Act := F.foldl (fun a p => a.put (some p.2) (.pointer (some ⟨G p.1, 0, none⟩))) a
theorem putsG_E (G : Nat → Nat) : ∀ (F : List (Nat × Nat)) (a : Act), (∀ p ∈ F, dstOf ops p.1 = some p.2) → putsG ops G (F.map (·.1)) a = putsE G F a
  | [], _, _ => rfl
  | p :: F, a, h => by
    rw [List.map_cons, putsG_cons, h p (List.mem_cons_self ..), putsG_E G F _ fun q hq => h q (List.mem_cons_of_mem _ hq)]
    rfl
/-- A region with floats. -/
def schedXA (ops : Array Oper) (F : List Nat) (chain : List (Nat × Nat)) (suf : STr) : Bool :=
  Region.noSelect ops && decide (chain.length + F.length + suf.len ≤ ops.size) && schedX .any ops (fun i => suf.late.contains i) F suf chain (Array.replicate ops.size false) &&
  F.all (fun f => !suf.late.contains f && decide (f < ops.size) && F.all (fun g => f == g || ((dstOf ops f).isSome && dstOf ops f != dstOf ops g))) && decide F.Nodup
theorem wp_region_X {id : Nat} {a : Act} {w : World} (F : List Nat) (chain : List (Nat × Nat)) (suf : STr) (cs : Array Value) (e : TypeId) (hm : P.follows .mixedOrders = true) (hb : schedXA ops F chain suf = true)
    (hop : ∀ f ∈ F, ∃ o, ops[f]? = some o ∧ o.guard = none ∧ (∀ e ∈ o.after, Region.binds .any e = false) ∧ ∀ (ev : Operand → Value) (x : World), (execOp ev o).run P x = .ok (.value (.pointer (some ⟨x.heap.size, 0, none⟩))) (x.alloc (.cells cs e)))
    (hQ : ∀ c (a : Act) (t : Array Value) w, Q (.panic c) { a with tmps := t } w → Q (.panic c) a w)
    (h : wpX P ops Q w.drew F cs e suf chain a w.drew) : (Code.region id ops true).wp P Q a w := by
  unfold schedXA at hb
  simp only [Bool.and_eq_true, decide_eq_true_eq] at hb
  obtain ⟨⟨⟨⟨h1, h2⟩, h3⟩, h4⟩, h5⟩ := hb
  rw [List.all_eq_true] at h4
  have hF : Floats P .any ops (fun i => suf.late.contains i) F cs e := ⟨hop, fun f hf => by
      have := h4 f hf
      simp only [Bool.and_eq_true, Bool.not_eq_true'] at this
      exact this.1.1, h5, fun f hf g hg hne d hd => by
      have := h4 f hf
      simp only [Bool.and_eq_true, List.all_eq_true] at this
      have := this.2 g hg
      rw [Bool.or_eq_true, beq_iff_eq] at this
      rcases this with h | h
      · exact absurd h hne
      · rw [Bool.and_eq_true, bne_iff_ne] at h
        rw [← hd]
        exact fun e => h.2 e.symm⟩
  have hnil : F.filter (fun _ => false) = [] := List.filter_eq_nil_iff.2 (by simp)
  have hlen : leftF F (fun _ => false) = F.length := by
    unfold leftF
    rw [List.filter_eq_self.2 (by simp)]
  have hM := wpM_of_X (W0 := w.drew) hF h1 hQ (chain.length + F.length) chain (fun _ => false) (fun _ => 0) (Array.replicate ops.size false) a w.drew w.drew ops.size (by rw [hlen]) (by omega) h3 (fun f hf => by
      have := h4 f hf
      simp only [Bool.and_eq_true, decide_eq_true_eq] at this
      rw [Array.getD_eq_getD_getElem?]
      simp [this.1.2]) (From.refl _) (From.refl _) ⟨fun f hf => absurd (hnil ▸ hf : f ∈ ([] : List Nat)) (List.not_mem_nil), fun f hf => absurd (hnil ▸ hf : f ∈ ([] : List Nat)) (List.not_mem_nil)⟩ h
  rw [hnil] at hM
  exact wp_region_any hm (wpAny_of_M _ _ _ _ _ hM)

/-- What is asked of an operation that makes a variable. -/
def FlOp (P : Program) (ops : Array Oper) (cs : Array Value) (e : TypeId) (f : Nat) : Prop := ∃ o, ops[f]? = some o ∧ o.guard = none ∧ (∀ e ∈ o.after, Region.binds .any e = false) ∧ ∀ (ev : Operand → Value) (x : World), (execOp ev o).run P x = .ok (.value (.pointer (some ⟨x.heap.size, 0, none⟩))) (x.alloc (.cells cs e))
/-- The steps' form, the slots said. -/
def XGo (P : Program) (ops : Array Oper) (Q : Exit → Act → World → Prop) (F : List (Nat × Nat)) (cs : Array Value) (e : TypeId) (suf : STr) (W0 : World) : List (Nat × Nat) → Act → World → Prop
  | [], a, w => ∀ (G : Nat → Nat) (x : World), From W0 x → From w x → FlAt W0 (F.map (·.1)) cs e G x → wpS P ops Q W0 suf (putsE G F a) x
  | (i, m) :: rest, a, w => ∃ o, ops[i]? = some o ∧
    if Region.wanted o (yielded ops a.tmps) = true then
      (match m with
       | 0 => ∃ v, (∀ x, From W0 x → (execOp a.eval o).run P x = .ok (.value v) x) ∧ XGo P ops Q F cs e suf W0 rest (a.put o.dst v) w
       | 1 => ∃ v, (∀ x, (execOp a.eval o).run P x = .ok (.value v) x) ∧ XGo P ops Q F cs e suf W0 rest (a.put o.dst v) w
       | _ => ∀ x, From w x → o.wp P a x (fun a' w' => FromT x w' (XGo P ops Q F cs e suf W0 rest a' w')) Q)
    else XGo P ops Q F cs e suf W0 rest (a.put o.dst undef) w
theorem X_of_go {W0 : World} {F : List (Nat × Nat)} {cs : Array Value} {e : TypeId} {suf : STr} (hd : ∀ p ∈ F, dstOf ops p.1 = some p.2) : ∀ (chain : List (Nat × Nat)) (a : Act) (w : World), XGo P ops Q F cs e suf W0 chain a w → wpX P ops Q W0 (F.map (·.1)) cs e suf chain a w
  | [], a, w, h => fun G x h0 hx hF => by rw [putsG_E G F a hd]; exact h G x h0 hx hF
  | (i, m) :: rest, a, w, h => by
    obtain ⟨o, ho, h⟩ := h
    refine ⟨o, ho, ?_⟩
    split
    · rename_i hw
      rw [if_pos hw] at h
      match m, h with
      | 0, ⟨v, hv, h⟩ => exact ⟨v, hv, X_of_go hd rest _ _ h⟩
      | 1, ⟨v, hv, h⟩ => exact ⟨v, hv, X_of_go hd rest _ _ h⟩
      | m + 2, h => exact fun x hx => Oper.wp_mono (fun a' w' h' => ⟨h'.1, X_of_go hd rest _ _ h'.2⟩) (h x hx)
    · rename_i hw
      rw [if_neg hw] at h
      exact X_of_go hd rest _ _ h
theorem wp_region_XE {id : Nat} {a : Act} {w : World} (F chain : List (Nat × Nat)) (suf : STr) (cs : Array Value) (e : TypeId) (hm : P.follows .mixedOrders = true) (hb : schedXA ops (F.map (·.1)) chain suf = true) (hd : F.all (fun p => dstOf ops p.1 == some p.2) = true)
    (hop : ∀ p ∈ F, FlOp P ops cs e p.1) (hQ : ∀ c (a : Act) (t : Array Value) w, Q (.panic c) { a with tmps := t } w → Q (.panic c) a w)
    (h : XGo P ops Q F cs e suf w.drew chain a w.drew) : (Code.region id ops true).wp P Q a w :=
  wp_region_X (F.map (·.1)) chain suf cs e hm hb (fun f hf => by
    obtain ⟨p, hp, rfl⟩ := List.mem_map.1 hf
    exact hop p hp) hQ (X_of_go (fun p hp => by
      have := List.all_eq_true.1 hd p hp
      simpa using this) chain a w.drew h)
theorem flOp_of {cs : Array Value} {e : TypeId} {f : Nat} {o : Oper} (ho : ops[f]? = some o) (hg : o.guard = none) (ha : o.after = #[]) (hr : ∀ (ev : Operand → Value) (x : World), (execOp ev o).run P x = .ok (.value (.pointer (some ⟨x.heap.size, 0, none⟩))) (x.alloc (.cells cs e))) : FlOp P ops cs e f :=
  ⟨o, ho, hg, fun e he => by rw [ha] at he; simp at he, hr⟩

/-! The steps. -/
variable {W0 : World} {F : List (Nat × Nat)} {cs : Array Value} {e : TypeId} {suf : STr} {i : Nat} {o : Oper} {rest : List (Nat × Nat)} {a : Act} {w : World} {v : Value}
theorem wpX_nil (h : ∀ (G : Nat → Nat) (x : World), From W0 x → From w x → FlAt W0 (F.map (·.1)) cs e G x → wpS P ops Q W0 suf (putsE G F a) x) : XGo P ops Q F cs e suf W0 [] a w := h
theorem wpX_pure (ho : ops[i]? = some o) (hw : Region.wanted o (yielded ops a.tmps) = true) (hv : ∀ x, (execOp a.eval o).run P x = .ok (.value v) x) (h : XGo P ops Q F cs e suf W0 rest (a.put o.dst v) w) : XGo P ops Q F cs e suf W0 ((i, 1) :: rest) a w :=
  ⟨o, ho, by rw [if_pos hw]; exact ⟨v, hv, h⟩⟩
theorem wpX_read (ho : ops[i]? = some o) (hw : Region.wanted o (yielded ops a.tmps) = true) (hv : ∀ x, From W0 x → (execOp a.eval o).run P x = .ok (.value v) x) (h : XGo P ops Q F cs e suf W0 rest (a.put o.dst v) w) : XGo P ops Q F cs e suf W0 ((i, 0) :: rest) a w :=
  ⟨o, ho, by rw [if_pos hw]; exact ⟨v, hv, h⟩⟩
theorem wpX_call (ho : ops[i]? = some o) (hw : Region.wanted o (yielded ops a.tmps) = true) (h : ∀ x, From w x → ∀ K : Act → World → Prop, (∀ a' w', FromT x w' (XGo P ops Q F cs e suf W0 rest a' w') → K a' w') → o.wp P a x K Q) : XGo P ops Q F cs e suf W0 ((i, 2) :: rest) a w :=
  ⟨o, ho, by rw [if_pos hw]; exact fun x hx => h x hx _ (fun _ _ h => h)⟩
theorem wpX_skip {m : Nat} (ho : ops[i]? = some o) (hw : Region.wanted o (yielded ops a.tmps) = false) (h : XGo P ops Q F cs e suf W0 rest (a.put o.dst undef) w) : XGo P ops Q F cs e suf W0 ((i, m) :: rest) a w :=
  ⟨o, ho, by rw [if_neg (by rw [hw]; exact Bool.false_ne_true)]; exact h⟩
theorem wpX_load {t : TypeId} {x : Operand} (ho : ops[i]? = some o) (hop : o.op = .load t x) (hw : Region.wanted o (yielded ops a.tmps) = true) (hv : (execOp a.eval o).run P W0 = .ok (.value v) W0) (h : XGo P ops Q F cs e suf W0 rest (a.put o.dst v) w) : XGo P ops Q F cs e suf W0 ((i, 0) :: rest) a w := by
  refine wpX_read ho hw (fun y hy => ?_) h
  have hr : readB P (execOp a.eval o) := by
    unfold execOp
    rw [hop]
    exact readB_bind' (readB_loadAt t _) fun _ => trivial
  exact (readB_run _ hr hv).2 y hy
end
end Go.Proofs.YtkelegjppnfoaaaDoor

/-
  Rows of cells whose contents are arrays that nobody looks into: loads of a row or a part of one, stores, new rows, in whatever block. No program is named here.
-/
namespace Go.Proofs.YtkelegjppnfoaaaDoor
open Go.RowKit

/-- A row of n plain cells. -/
structure Arr (n : Nat) (cs : Array Value) : Prop where
  size : cs.size = n
  one : cs.all (·.oneCell') = true
/-- Where a row's new content stands. -/
inductive Upd (g : Nat) (c cs : Array Value) (e : TypeId) : List Chunk → List Chunk → Prop where
  | head {H : List Chunk} : Upd g c cs e (.cells g c e :: H) (.cells g cs e :: H)
  | tail {d : Chunk} {H H' : List Chunk} (h : Upd g c cs e H H') : Upd g c cs e (d :: H) (d :: H')
theorem Upd.at {g : Nat} {c cs : Array Value} {e : TypeId} {H H' : List Chunk} (h : Upd g c cs e H H') : ∃ i : Nat, H[i]? = some (.cells g c e) ∧ H' = H.set i (.cells g cs e) := by
  induction h with
  | head => exact ⟨0, rfl, rfl⟩
  | tail h ih =>
    obtain ⟨i, h1, h2⟩ := ih
    exact ⟨i + 1, by simpa using h1, by rw [h2]; rfl⟩
section
variable {P : Program} {w0 w : World} {M : Nat → Prop} {H H' : List Chunk}
theorem St.heapM (h : St w0 M w H) {g : Nat} {cs : Array Value} {e : TypeId} (hm : Chunk.cells g cs e ∈ H) : w.heap[g]? = some (.cells cs e (0, 0)) := by
  obtain ⟨i, hi⟩ := List.getElem?_of_mem hm
  exact h.heap i hi
theorem St.updR (h : St w0 M w H) {g : Nat} {c cs : Array Value} {e : TypeId} (hu : Upd g c cs e H H') : w.heap[g]? = some (.cells c e (0, 0)) ∧ St w0 M (w.setRow g cs) H' := by
  obtain ⟨i, hi, rfl⟩ := hu.at
  exact ⟨h.heap i hi, h.setRow i hi cs⟩
/-- A row more, that nothing else holds. -/
theorem St.addAt (h : St w0 M w H) {c : Chunk} {g : Nat} (hc : c.sat w) (hb : c.block = some g) (hg : w0.heap.size ≤ g) (hf : ∀ d ∈ H, d.block ≠ some g) : St w0 M w (c :: H) := by
  refine ⟨h.ext, ?_, ?_, ?_⟩
  · intro i d hd
    cases i with
    | zero => simp only [List.getElem?_cons_zero, Option.some.injEq] at hd; subst hd; exact hc
    | succ i => exact h.sat i d (by simpa using hd)
  · intro i d k hd hk
    cases i with
    | zero =>
      simp only [List.getElem?_cons_zero, Option.some.injEq] at hd
      subst hd
      rw [hb] at hk
      injection hk with hk
      exact .inl (hk ▸ hg)
    | succ i => exact h.own i d k (by simpa using hd) hk
  · intro i j d e k hij hd he hk hk'
    cases i with
    | zero =>
      simp only [List.getElem?_cons_zero, Option.some.injEq] at hd
      subst hd
      cases j with
      | zero => exact hij rfl
      | succ j => exact hf e (List.mem_of_getElem? (by simpa using he)) (hk'.trans (hk.symm.trans hb))
    | succ i =>
      cases j with
      | zero =>
        simp only [List.getElem?_cons_zero, Option.some.injEq] at he
        subst he
        exact hf d (List.mem_of_getElem? (by simpa using hd)) (hk.trans (hk'.symm.trans hb))
      | succ j => exact h.apart i j d e k (by omega) (by simpa using hd) (by simpa using he) hk hk'
/-- The floats' rows, each new. -/
theorem St.floats {W0 x : World} {F : List Nat} {cs : Array Value} {e : TypeId} {G : Nat → Nat} (h : St w0 M W0 H) (hx : From W0 x) (hF : FlAt W0 F cs e G x) : ∀ (F' : List Nat), F'.Nodup → (∀ f ∈ F', f ∈ F) → St w0 M x (F'.map (fun f => Chunk.cells (G f) cs e) ++ H) := by
  have hc := h.call hx
  intro F'
  induction F' with
  | nil => intro _ _; exact hc
  | cons f F' ih =>
    intro hn hs
    obtain ⟨hf, hn'⟩ := List.nodup_cons.1 hn
    have ih := ih hn' fun g hg => hs g (List.mem_cons_of_mem _ hg)
    have hGf := hF.at_ f (hs f (List.mem_cons_self ..))
    have hfresh : ∀ c ∈ F'.map (fun f => Chunk.cells (G f) cs e) ++ H, c.block ≠ some (G f) := fun c hcm e' => by
      rcases List.mem_append.1 hcm with hm | hm
      · obtain ⟨g, hg, rfl⟩ := List.mem_map.1 hm
        have : G g = G f := by injection e'
        exact hF.ne g (hs g (List.mem_cons_of_mem _ hg)) f (hs f (List.mem_cons_self ..)) (fun e => hf (e ▸ hg)) this
      · obtain ⟨i, hi⟩ := List.getElem?_of_mem hm
        have := Chunk.lt (h.sat i c hi) e'
        omega
    have hsat : (Chunk.cells (G f) cs e).sat x := hGf.2
    exact ih.addAt hsat rfl (Nat.le_trans h.ext.size hGf.1) hfresh
/-- A part of a row. -/
def Part (cs part : Array Value) (off : Nat) : Prop := ∀ (j : Nat) (v : Value), part[j]? = some v → cs[off + j]? = some v
def quad (a b c d : Array Value) : Array Value := a ++ b ++ c ++ d
theorem quad_size (a b c d : Array Value) : (quad a b c d).size = a.size + b.size + c.size + d.size := by unfold quad; rw [Array.size_append, Array.size_append, Array.size_append]
theorem quad_arr {n : Nat} {a b c d : Array Value} (ha : Arr n a) (hb : Arr n b) (hc : Arr n c) (hd : Arr n d) {m : Nat} (hm : n * 4 = m) : Arr m (quad a b c d) :=
  ⟨by rw [quad_size, ha.size, hb.size, hc.size, hd.size]; omega, by unfold quad; rw [Array.all_append, Array.all_append, Array.all_append, ha.one, hb.one, hc.one, hd.one]; rfl⟩
/-- Parts of n cells. -/
inductive PartN (n : Nat) : Array Value → Array Value → Nat → Prop where
  | all {cs : Array Value} (h : Arr n cs) : PartN n cs cs 0
  | q0 {a b c d : Array Value} (ha : Arr n a) : PartN n (quad a b c d) a 0
  | q1 {a b c d : Array Value} (ha : Arr n a) (hb : Arr n b) : PartN n (quad a b c d) b (n * 1)
  | q2 {a b c d : Array Value} (ha : Arr n a) (hb : Arr n b) (hc : Arr n c) : PartN n (quad a b c d) c (n * 2)
  | q3 {a b c d : Array Value} (ha : Arr n a) (hb : Arr n b) (hc : Arr n c) (hd : Arr n d) : PartN n (quad a b c d) d (n * 3)
theorem app_l {a b : Array Value} {j : Nat} {v : Value} (h : a[j]? = some v) : (a ++ b)[j]? = some v := by
  rw [Array.getElem?_append_left (Array.getElem?_eq_some_iff.1 h).1]; exact h
theorem app_r {a b : Array Value} {j k : Nat} {v : Value} (h : b[j]? = some v) (hk : a.size = k) : (a ++ b)[k + j]? = some v := by
  rw [Array.getElem?_append_right (by omega), show k + j - a.size = j from by omega]; exact h
theorem PartN.ok {n : Nat} {cs part : Array Value} {off : Nat} (h : PartN n cs part off) : part.size = n ∧ Part cs part off := by
  cases h with
  | all h => exact ⟨h.size, fun j v h => by rw [Nat.zero_add]; exact h⟩
  | q0 ha => exact ⟨ha.size, fun j v h => by rw [Nat.zero_add]; exact app_l (app_l (app_l h))⟩
  | q1 ha hb => exact ⟨hb.size, fun j v h => app_l (app_l (app_r h (by rw [ha.size, Nat.mul_one])))⟩
  | q2 ha hb hc => exact ⟨hc.size, fun j v h => app_l (app_r h (by rw [Array.size_append, ha.size, hb.size]; omega))⟩
  | q3 ha hb hc hd => exact ⟨hd.size, fun j v h => app_r h (by rw [Array.size_append, Array.size_append, ha.size, hb.size, hc.size]; omega)⟩
def isRow (d : TypeDesc) : Bool := match d with | .struct _ | .array _ _ => true | _ => false
theorem run_loadVar_part (w : World) (g off : Nat) (t ty : TypeId) (cs part : Array Value) (fr : Nat × Nat) (d : TypeDesc) (hg : w.heap[g]? = some (.cells cs t fr))
    (hu : P.underlying ty = some d) (hd : isRow d = true) (hi : (P.info? ty).map (·.size) = some part.size) (hp : Part cs part off) :
    (loadVar ty ⟨g, off, none⟩).run P w = .ok (.agg part) w := by
  have hl : (loadCells ⟨g, off, none⟩ part.toList.length).run P w = .ok part.toList.toArray w :=
    run_loadCells_list (P := P) w ⟨g, off, none⟩ part.toList (fun j v hv => by
      have hadd : (⟨g, off, none⟩ : Addr).add j = ⟨g, off + j, none⟩ := by unfold Addr.add; split <;> simp_all
      rw [hadd, cell_of_row w g (off + j) cs t fr hg]
      exact hp j v (by simpa using hv))
  cases hq : P.info? ty with
  | none => simp [hq] at hi
  | some i =>
    have hs : i.size = part.size := by simpa [hq] using hi
    have hagg : (isAgg ty).run P w = .ok true w := by
      unfold isAgg
      rw [Sem.run_bind, run_underlying hu w]
      cases d <;> simp_all [isRow]
    simp only [Array.length_toList, Array.toArray_toList] at hl
    simp [loadVar, Sem.run_bind, hagg, sizeOf, typeInfo, hq, hs, hl]
/-- A type that is a row of n cells. -/
structure RowOf (P : Program) (t : TypeId) (n : Nat) : Prop where
  d : ∃ d, P.underlying t = some d ∧ isRow d = true
  n : (P.info? t).map (·.size) = some n
theorem run_load_part {o : Oper} {a : Act} {t : TypeId} {x : Operand} {n : Nat} (ho : o.op = .load t x) (hT : RowOf P t n) {g off : Nat} (hx : a.eval x = .pointer (some ⟨g, off, none⟩)) {cs part : Array Value} {e : TypeId} (hg : w.heap[g]? = some (.cells cs e (0, 0))) (hp : PartN n cs part off) :
    (execOp a.eval o).run P w = .ok (.value (.agg part)) w := by
  obtain ⟨⟨d, hu, hd⟩, hi⟩ := hT
  have h := run_loadVar_part (P := P) w g off e t cs part (0, 0) d hg hu hd (by rw [hi, hp.ok.1]) hp.ok.2
  unfold execOp
  simp only [ho, hx, Instr.loadAt, Instr.sureAddr, Sem.run_bind, Sem.run_pure, Result.andThen_ok, h]
end
/-! The steps: in a row, along a schedule, beside floats. -/
section
variable {P : Program} {ops : Array Oper} {Q : Exit → Act → World → Prop} {rest : List Oper} {restT : List (Nat × Nat)} {i : Nat} {o : Oper} {a : Act} {w0 w : World} {M : Nat → Prop} {H H' : List Chunk} {t e : TypeId} {n g off : Nat} {x : Operand} {cs part : Array Value}
  {W0 : World} {F : List (Nat × Nat)} {fc : Array Value} {fe : TypeId} {suf : STr}
theorem wp_loadP {K : Act → World → Prop} (ho : o.op = .load t x) (hx : a.eval x = .pointer (some ⟨g, off, none⟩)) (hS : St w0 M w H) (hm : Chunk.cells g cs e ∈ H) (hp : PartN n cs part off) (hT : RowOf P t n)
    (h : K (a.put o.dst (.agg part)) w) : o.wp P a w K Q := by
  unfold Oper.wp
  rw [run_load_part ho hT hx (hS.heapM hm) hp]
  exact h
theorem wl_loadP (hgd : o.guard = none) (ho : o.op = .load t x) (hx : a.eval x = .pointer (some ⟨g, off, none⟩)) (hS : St w0 M w H) (hm : Chunk.cells g cs e ∈ H) (hT : RowOf P t n) (hp : PartN n cs part off)
    (h : wpList P ops Q rest (a.put o.dst (.agg part)) w) : wpList P ops Q (o :: rest) a w :=
  wpList_plain hgd fun K hK => by
    unfold Oper.wp
    rw [run_load_part ho hT hx (hS.heapM hm) hp]
    exact hK _ _ h
theorem wpT_loadP (hoi : ops[i]? = some o) (ho : o.op = .load t x) (hw : Region.wanted o (yielded ops a.tmps) = true) (hx : a.eval x = .pointer (some ⟨g, off, none⟩)) (hS : St w0 M w H) (hm : Chunk.cells g cs e ∈ H) (hT : RowOf P t n) (hp : PartN n cs part off)
    (h : wpT P ops Q restT (a.put o.dst (.agg part)) w) : wpT P ops Q ((i, 0) :: restT) a w :=
  wpT_load hoi ho hw (run_load_part ho hT hx (hS.heapM hm) hp) h
theorem wpX_loadP (hoi : ops[i]? = some o) (ho : o.op = .load t x) (hw : Region.wanted o (yielded ops a.tmps) = true) (hx : a.eval x = .pointer (some ⟨g, off, none⟩)) (hS : St w0 M W0 H) (hm : Chunk.cells g cs e ∈ H) (hT : RowOf P t n) (hp : PartN n cs part off)
    (h : XGo P ops Q F fc fe suf W0 restT (a.put o.dst (.agg part)) w) : XGo P ops Q F fc fe suf W0 ((i, 0) :: restT) a w :=
  wpX_load hoi ho hw (run_load_part ho hT hx (hS.heapM hm) hp) h
/-- A call beside floats. -/
theorem wpX_callF {f : FuncId} {xs : List Operand} {ts : Array TypeId} {vs : List Value} {R : World → Ending → World → Prop} (ho : ops[i]? = some o) (hw : Region.wanted o (yielded ops a.tmps) = true)
    (hop : o.op = .call { callee := .value (.func f), args := xs.toArray, argTypes := ts }) (hf : ∀ (args : Array Value) (w : World), (callFunc f args).run P w = .ok (.enter f args) w)
    (hx : xs.map a.eval = vs) (hc : ∀ x, Calls P f vs.toArray x (R x)) (h : ∀ x e w', R x e w' → ∃ v, e = .returned v ∧ Below x.heap.size x w' ∧ XGo P ops Q F fc fe suf W0 restT (a.put o.dst v) w') : XGo P ops Q F fc fe suf W0 ((i, 2) :: restT) a w :=
  wpX_call ho hw fun x _ K hK => wp_call hop hf hx (hc x) fun e w' hr => by
    obtain ⟨v, he, hb, hk⟩ := h x e w' hr
    exact ⟨v, he, hK _ _ ⟨hb, hk⟩⟩
/-- A whole row stored. -/
theorem wp_storeR {K : Act → World → Prop} {p : Operand} {c : Array Value} (ho : o.op = .store t p x) (hp : a.eval p = .pointer (some ⟨g, 0, none⟩)) (hx : a.eval x = .agg cs) (hS : St w0 M w H) (hT : RowOf P t n) (hu : Upd g c cs e H H') (hc : Arr n c) (hcs : Arr n cs)
    (h : ∀ w', St w0 M w' H' → K (a.put o.dst undef) w') : o.wp P a w K Q := by
  obtain ⟨h1, h2⟩ := hS.updR hu
  exact wp_store_row t p x ho g cs hp hx e c h1 (by rw [hT.n, hcs.size]) (by rw [hc.size, hcs.size]) hcs.one (h _ h2)
theorem wl_storeR {p : Operand} {c : Array Value} (hgd : o.guard = none) (ho : o.op = .store t p x) (hp : a.eval p = .pointer (some ⟨g, 0, none⟩)) (hx : a.eval x = .agg cs) (hS : St w0 M w H) (hT : RowOf P t n) (hu : Upd g c cs e H H') (hc : Arr n c) (hcs : Arr n cs)
    (h : ∀ w', St w0 M w' H' → wpList P ops Q rest (a.put o.dst undef) w') : wpList P ops Q (o :: rest) a w :=
  wpList_plain hgd fun _ hK => wp_storeR ho hp hx hS hT hu hc hcs fun w' h' => hK _ _ (h w' h')
/-- A float's row stored: what stood at the region's beginning stands. -/
theorem wpS_storeF {p : Operand} {c : Array Value} {restS : STr} (hoi : ops[i]? = some o) (hw : Region.wanted o (yielded ops a.tmps) = true) (ho : o.op = .store t p x) (hp : a.eval p = .pointer (some ⟨g, 0, none⟩)) (hx : a.eval x = .agg cs) (hS : St w0 M w H) (hX : From W0 w) (hg : W0.heap.size ≤ g) (hT : RowOf P t n) (hu : Upd g c cs e H H') (hc : Arr n c) (hcs : Arr n cs)
    (h : ∀ w', St w0 M w' H' → From W0 w' → wpS P ops Q W0 restS (a.put o.dst undef) w') : wpS P ops Q W0 (.op i 2 restS) a w :=
  wpS_call hoi hw fun K hK => by
    obtain ⟨h1, h2⟩ := hS.updR hu
    have hX' : From W0 (w.setRow g cs) := ⟨hX.os, hX.tape, hX.output, by rw [size_setRow]; exact hX.size, fun k hk => (setRow_other w g k cs (by omega)).trans (hX.block k hk)⟩
    exact wp_store_row t p x ho g cs hp hx e c h1 (by rw [hT.n, hcs.size]) (by rw [hc.size, hcs.size]) hcs.one (hK _ _ ⟨hX', h _ h2 hX'⟩)
/-- A new variable. -/
def NewOf (P : Program) (t : TypeId) (zs : Array Value) : Prop := ∀ x : World, (Instr.alloc t true (.tuple #[])).run P x = .ok (.pointer (some ⟨x.heap.size, 0, none⟩)) (x.alloc (.cells zs t))
theorem run_allocR {zs : Array Value} (ho : o.op = .alloc t) (hN : NewOf P t zs) (ev : Operand → Value) (y : World) : (execOp ev o).run P y = .ok (.value (.pointer (some ⟨y.heap.size, 0, none⟩))) (y.alloc (.cells zs t)) := by
  unfold execOp
  simp only [ho, Sem.run_bind, hN y, Sem.run_pure, Result.andThen_ok]
theorem wl_allocR {zs : Array Value} (hgd : o.guard = none) (ho : o.op = .alloc t) (hS : St w0 M w H) (hN : NewOf P t zs)
    (h : ∀ g w', St w0 M w' (.cells g zs t :: H) → wpList P ops Q rest (a.put o.dst (.pointer (some ⟨g, 0, none⟩))) w') : wpList P ops Q (o :: rest) a w :=
  wpList_plain hgd fun _ hK => by
    unfold Oper.wp
    rw [run_allocR ho hN]
    exact hK _ _ (h _ _ (hS.alloc zs t))
theorem wl_boxR (hgd : o.guard = none) (ho : o.op = .box t x) (hx : a.eval x = .agg cs) (hS : St w0 M w H)
    (h : ∀ g w', St w0 M w' (.cells g cs t :: H) → wpList P ops Q rest (a.put o.dst (.pointer (some ⟨g, 0, none⟩))) w') : wpList P ops Q (o :: rest) a w :=
  wpList_plain hgd fun _ hK => by
    unfold Oper.wp execOp
    simp only [ho, hx, Sem.run_bind, Instr.box, newVar, newRow, run_newObj_alloc, Sem.run_pure, Result.andThen_ok]
    exact hK _ _ (h _ _ (hS.alloc cs t))
/-- Four parts put together. -/
def BuildOf (P : Program) (t : TypeId) (A : Array Value → Prop) : Prop := ∀ a b c d : Array Value, A a → A b → A c → A d → P.built t [(0, .agg a), (1, .agg b), (2, .agg c), (3, .agg d)] = some (quad a b c d)
theorem run_build4 {A : Array Value → Prop} {p q r s : Operand} {va vb vc vd : Array Value} (ho : o.op = .build t #[(0, p), (1, q), (2, r), (3, s)]) (h0 : a.eval p = .agg va) (h1 : a.eval q = .agg vb) (h2 : a.eval r = .agg vc) (h3 : a.eval s = .agg vd)
    (hB : BuildOf P t A) (ha : A va) (hb : A vb) (hc : A vc) (hd : A vd) (y : World) : (execOp a.eval o).run P y = .ok (.value (.agg (quad va vb vc vd))) y := by
  have hf := hB va vb vc vd ha hb hc hd
  have e : ((#[(0, p), (1, q), (2, r), (3, s)] : Array (Nat × Operand)).map fun (i, x) => (i, a.eval x)).toList = [(0, .agg va), (1, .agg vb), (2, .agg vc), (3, .agg vd)] := by
    simp [h0, h1, h2, h3]
  unfold execOp
  simp only [ho]
  simp only [Sem.run_bind, run_build y t _ _ (by rw [e]; exact hf), Result.andThen_ok]
  rfl
end
end Go.Proofs.YtkelegjppnfoaaaDoor

/-
  Sixteen rows of sixteen bits: their value, what carrying does to it. No program is named here.
-/
namespace Go.Proofs.YtkelegjppnfoaaaDoor
open Go.RowKit

/-- The number of rows. -/
def nv : List Int → Int
  | [] => 0
  | x :: xs => x + 65536 * nv xs
theorem nv_append : ∀ (xs ys : List Int), nv (xs ++ ys) = nv xs + 65536 ^ xs.length * nv ys
  | [], ys => by simp [nv]
  | x :: xs, ys => by
    simp only [List.cons_append, nv, nv_append xs ys, List.length_cons]
    rw [Int.pow_succ, Int.mul_add, Int.add_assoc, ← Int.mul_assoc, Int.mul_comm 65536 (65536 ^ xs.length)]
theorem nv_take {xs : List Int} {k : Nat} {x : Int} (h : xs[k]? = some x) : nv (xs.take (k + 1)) = nv (xs.take k) + x * 65536 ^ k := by
  have hk := (List.getElem?_eq_some_iff.1 h).1
  rw [List.take_add_one, h, Option.toList_some, nv_append, List.length_take, Nat.min_eq_left (by omega)]
  simp only [nv, Int.mul_zero, Int.add_zero]
  rw [Int.mul_comm]
/-- What is carried into row i. -/
def ky (xs : List Int) : Nat → Int
  | 0 => 0
  | i + 1 => (xs.getD i 0 + ky xs i) / 65536
/-- What stays in row i. -/
def dy (xs : List Int) (i : Nat) : Int := (xs.getD i 0 + ky xs i) % 65536
def dyL (xs : List Int) (i : Nat) : List Int := (List.range i).map (dy xs)
theorem dyL_len (xs : List Int) (i : Nat) : (dyL xs i).length = i := by simp [dyL]
theorem dyL_succ (xs : List Int) (i : Nat) : dyL xs (i + 1) = dyL xs i ++ [dy xs i] := by unfold dyL; rw [List.range_succ, List.map_append]; rfl
theorem dy_bd (xs : List Int) (i : Nat) : 0 ≤ dy xs i ∧ dy xs i < 65536 := by unfold dy; omega
theorem getD_of {xs : List Int} {k : Nat} {x : Int} (h : xs[k]? = some x) : xs.getD k 0 = x := by rw [List.getD_eq_getElem?_getD, h]; rfl
theorem split_at (T s : Int) : T * (s % 65536) + T * 65536 * (s / 65536) = T * s := by
  rw [Int.mul_assoc, ← Int.mul_add, Int.emod_add_mul_ediv]
theorem dyL_nv (xs : List Int) : ∀ i, i ≤ xs.length → nv (dyL xs i) + 65536 ^ i * ky xs i = nv (xs.take i)
  | 0, _ => by simp [dyL, ky, nv]
  | i + 1, h => by
    have hx : xs[i]? = some xs[i] := List.getElem?_eq_getElem (by omega)
    have hs := getD_of hx
    rw [dyL_succ, nv_append, dyL_len, nv_take hx, ← dyL_nv xs i (by omega)]
    simp only [nv, Int.mul_zero, Int.add_zero, dy, ky, hs, Int.pow_succ]
    have h1 := split_at ((65536 : Int) ^ i) (xs[i] + ky xs i)
    rw [Int.mul_add] at h1
    rw [Int.mul_comm xs[i]]
    omega
/-- A row after i rows have been carried. -/
def cyA (xs : List Int) (i : Nat) : List Int := if i < 16 then dyL xs i ++ ((xs.getD i 0 + ky xs i) :: xs.drop (i + 1)) else (dy xs 0 + 38 * ky xs 16) :: (dyL xs 16).drop 1
/-- What carrying makes of a number. -/
def carL (xs : List Int) : List Int := cyA xs 16
theorem dyL_drop (xs : List Int) : dyL xs 16 = dy xs 0 :: (dyL xs 16).drop 1 := rfl
theorem carL_len (xs : List Int) : (carL xs).length = 16 := by
  show ((dy xs 0 + 38 * ky xs 16) :: (dyL xs 16).drop 1).length = 16
  rw [List.length_cons, List.length_drop, dyL_len]
theorem cyA_zero (xs : List Int) (h : xs.length = 16) : cyA xs 0 = xs := by
  match xs, h with
  | x :: xs, _ => simp [cyA, dyL, ky]
theorem cyA_len (xs : List Int) (h : xs.length = 16) (i : Nat) (hi : i ≤ 16) : (cyA xs i).length = 16 := by
  unfold cyA
  split
  · rw [List.length_append, dyL_len, List.length_cons, List.length_drop, h]; omega
  · rw [List.length_cons, List.length_drop, dyL_len]
theorem cyA_at (xs : List Int) (i : Nat) (hi : i < 16) : (cyA xs i)[i]? = some (xs.getD i 0 + ky xs i) := by
  unfold cyA
  rw [if_pos hi, List.getElem?_append_right (by rw [dyL_len]; omega), dyL_len, Nat.sub_self]
  rfl
theorem cyA_next (xs : List Int) (h : xs.length = 16) (i : Nat) (hi : i < 15) : (cyA xs i)[i + 1]? = some (xs.getD (i + 1) 0) := by
  unfold cyA
  rw [if_pos (by omega), List.getElem?_append_right (by rw [dyL_len]; omega), dyL_len, Nat.add_sub_cancel_left, List.getElem?_cons_succ, List.getElem?_drop, Nat.add_zero, List.getD_eq_getElem?_getD, List.getElem?_eq_getElem (by omega)]
  rfl
theorem cyA_last (xs : List Int) : (cyA xs 15)[0]? = some (dy xs 0) := rfl
/-- A step: the row above takes what is carried, this one keeps its digit. -/
theorem cyA_step (xs : List Int) (h : xs.length = 16) (i : Nat) (hi : i < 15) :
    ((cyA xs i).set (i + 1) (xs.getD (i + 1) 0 + ky xs (i + 1))).set i (dy xs i) = cyA xs (i + 1) := by
  have hd : xs.drop (i + 1) = xs.getD (i + 1) 0 :: xs.drop (i + 2) := by
    rw [List.drop_eq_getElem_cons (by omega), List.getD_eq_getElem?_getD, List.getElem?_eq_getElem (by omega)]
    rfl
  unfold cyA
  rw [if_pos (by omega), if_pos (by omega), List.set_append_right _ _ (by rw [dyL_len]; omega), dyL_len, Nat.add_sub_cancel_left, List.set_cons_succ, hd, List.set_cons_zero,
    List.set_append_right _ _ (by rw [dyL_len]; omega), dyL_len, Nat.sub_self, List.set_cons_zero, dyL_succ, List.append_assoc]
  rfl
theorem cyA_end (xs : List Int) (h : xs.length = 16) :
    ((cyA xs 15).set 0 (dy xs 0 + 38 * ky xs 16)).set 15 (dy xs 15) = carL xs := by
  have hd : xs.drop 16 = [] := List.drop_eq_nil_of_le (by omega)
  show (((dyL xs 15 ++ ((xs.getD 15 0 + ky xs 15) :: xs.drop 16))).set 0 _).set 15 _ = (dy xs 0 + 38 * ky xs 16) :: (dyL xs 16).drop 1
  rw [hd]
  rfl
theorem carL_nv (xs : List Int) (h : xs.length = 16) : nv (carL xs) = nv xs - ky xs 16 * (65536 ^ 16 - 38) := by
  have h1 := dyL_nv xs 16 (by omega)
  rw [List.take_of_length_le (by omega), dyL_drop] at h1
  show nv ((dy xs 0 + 38 * ky xs 16) :: (dyL xs 16).drop 1) = _
  simp only [nv] at h1 ⊢
  rw [← h1, Int.mul_sub, Int.mul_comm (ky xs 16) (65536 ^ 16)]
  omega
theorem two_pq : (65536 ^ 16 - 38 : Int) = 2 * (Pq : Int) := by unfold Pq; decide +kernel
theorem carL_mod (xs : List Int) (h : xs.length = 16) : nv (carL xs) % (Pq : Int) = nv xs % (Pq : Int) := by
  rw [carL_nv xs h, two_pq, ← Int.mul_assoc, Int.sub_mul_emod_self_right]
theorem carL_get (xs : List Int) (k : Nat) (hk : k < 16) : (carL xs)[k]? = some (dy xs k + if k = 0 then 38 * ky xs 16 else 0) := by
  show ((dy xs 0 + 38 * ky xs 16) :: (dyL xs 16).drop 1)[k]? = _
  cases k with
  | zero => rfl
  | succ k =>
    rw [List.getElem?_cons_succ, List.getElem?_drop, dyL, List.getElem?_map, List.getElem?_range (by omega), if_neg (by omega), Int.add_zero, Nat.add_comm 1 k]
    rfl
/-- Rows as the page keeps them. -/
def NB (xs : List Int) : Prop := xs.length = 16 ∧ ∀ (k : Nat) (x : Int), xs[k]? = some x → (if k = 0 then -76 else 0) ≤ x ∧ x < 65536 + (if k = 0 then 76 else 0)
/-- All rows within a bound. -/
def NW (M : Int) (xs : List Int) : Prop := xs.length = 16 ∧ ∀ (k : Nat) (x : Int), xs[k]? = some x → -M ≤ x ∧ x ≤ M
theorem ky_bd (xs : List Int) (M : Int) (hM : 0 ≤ M) (h : ∀ (k : Nat) (x : Int), xs[k]? = some x → -M ≤ x ∧ x ≤ M) : ∀ i, -M - 1 ≤ ky xs i ∧ ky xs i ≤ M + 1
  | 0 => by simp only [ky]; omega
  | i + 1 => by
    have ih := ky_bd xs M hM h i
    have hx : -M ≤ xs.getD i 0 ∧ xs.getD i 0 ≤ M := by
      rw [List.getD_eq_getElem?_getD]
      cases hg : xs[i]? with
      | none => simp only [Option.getD_none]; omega
      | some x => exact h i x hg
    simp only [ky]
    omega
/-- Two numbers added, or one taken from another: carried once, they are as the page keeps them. -/
theorem carL_nb1 (xs : List Int) (h1 : ∀ (k : Nat) (x : Int), xs[k]? = some x → (if k = 0 then -65700 else -65535) ≤ x ∧ x ≤ (if k = 0 then 131300 else 131070)) : NB (carL xs) := by
  have hk : ∀ i, 1 ≤ i → -2 ≤ ky xs i ∧ ky xs i ≤ 2 := by
    intro i hi
    induction i with
    | zero => omega
    | succ i ih =>
      have hx : -65700 ≤ xs.getD i 0 ∧ xs.getD i 0 ≤ 131300 := by
        rw [List.getD_eq_getElem?_getD]
        cases hg : xs[i]? with
        | none => simp only [Option.getD_none]; omega
        | some x => have := h1 i x hg; split at this <;> simp only [Option.getD_some] <;> omega
      simp only [ky]
      cases i with
      | zero => simp only [ky]; omega
      | succ i => have := ih (by omega); omega
  have h16 : -2 ≤ ky xs 16 ∧ ky xs 16 ≤ 2 := hk 16 (by omega)
  refine ⟨carL_len xs, fun k x hx => ?_⟩
  have hk16 : k < 16 := by have := (List.getElem?_eq_some_iff.1 hx).1; rw [carL_len] at this; exact this
  rw [carL_get xs k hk16] at hx
  injection hx with hx
  have hd := dy_bd xs k
  subst hx
  split <;> omega
/-- A number with one long row: carried once, it is as the page keeps it. -/
theorem carL_nb2 (xs : List Int) (h1 : ∀ (k : Nat) (x : Int), xs[k]? = some x → (if k = 0 then -288230376151711744 else 0) ≤ x ∧ x ≤ (if k = 0 then 288230376151711744 else 65535)) : NB (carL xs) := by
  have hx : ∀ k, (if k = 0 then -288230376151711744 else 0) ≤ xs.getD k 0 ∧ xs.getD k 0 ≤ (if k = 0 then 288230376151711744 else 65535) := by
    intro k
    rw [List.getD_eq_getElem?_getD]
    cases hg : xs[k]? with
    | none => simp only [Option.getD_none]; split <;> omega
    | some x => exact h1 k x hg
  have k1 : -4398046511105 ≤ ky xs 1 ∧ ky xs 1 ≤ 4398046511105 := by have := hx 0; rw [if_pos rfl, if_pos rfl] at this; rw [ky, ky]; omega
  have k2 : -67108865 ≤ ky xs 2 ∧ ky xs 2 ≤ 67108865 := by have := hx 1; rw [if_neg (by omega), if_neg (by omega)] at this; rw [ky]; omega
  have k3 : -1025 ≤ ky xs 3 ∧ ky xs 3 ≤ 1025 := by have := hx 2; rw [if_neg (by omega), if_neg (by omega)] at this; rw [ky]; omega
  have hk : ∀ i, -1 ≤ ky xs (i + 4) ∧ ky xs (i + 4) ≤ 1 := by
    intro i
    induction i with
    | zero => have := hx 3; rw [if_neg (by omega), if_neg (by omega)] at this; rw [ky]; omega
    | succ i ih => have := hx (i + 4); rw [if_neg (by omega), if_neg (by omega)] at this; rw [show i + 1 + 4 = (i + 4) + 1 from by omega, ky]; omega
  have h16 : -1 ≤ ky xs 16 ∧ ky xs 16 ≤ 1 := hk 12
  refine ⟨carL_len xs, fun k x hx => ?_⟩
  have hk16 : k < 16 := by have := (List.getElem?_eq_some_iff.1 hx).1; rw [carL_len] at this; exact this
  rw [carL_get xs k hk16] at hx
  injection hx with hx
  have hd := dy_bd xs k
  subst hx
  split <;> omega
theorem carL_long (xs : List Int) (M : Int) (hM0 : 0 ≤ M) (hM : M ≤ 4503599627370496) (h : ∀ (k : Nat) (x : Int), xs[k]? = some x → -M ≤ x ∧ x ≤ M) :
    ∀ (k : Nat) (x : Int), (carL xs)[k]? = some x → (if k = 0 then -288230376151711744 else 0) ≤ x ∧ x ≤ (if k = 0 then 288230376151711744 else 65535) := by
  intro k x hx
  have hk16 : k < 16 := by have := (List.getElem?_eq_some_iff.1 hx).1; rw [carL_len] at this; exact this
  rw [carL_get xs k hk16] at hx
  injection hx with hx
  have hd := dy_bd xs k
  have hb := ky_bd xs M hM0 h 16
  subst hx
  split <;> omega
/-- Rows that are digits. -/
def Dig (xs : List Int) : Prop := xs.length = 16 ∧ ∀ (k : Nat) (x : Int), xs[k]? = some x → 0 ≤ x ∧ x < 65536
theorem nv_dig : ∀ (xs : List Int), (∀ x ∈ xs, 0 ≤ x ∧ x < 65536) → 0 ≤ nv xs ∧ nv xs < 65536 ^ xs.length
  | [], _ => by simp [nv]
  | x :: xs, h => by
    have ih := nv_dig xs fun y hy => h y (List.mem_cons_of_mem _ hy)
    have hx := h x (List.mem_cons_self ..)
    simp only [nv, List.length_cons, Int.pow_succ]
    omega
theorem dig_all {xs : List Int} (h : Dig xs) : ∀ x ∈ xs, 0 ≤ x ∧ x < 65536 := fun x hx => by
  obtain ⟨k, hk⟩ := List.getElem?_of_mem hx
  exact h.2 k x hk
theorem dig_nv {xs : List Int} (h : Dig xs) : 0 ≤ nv xs ∧ nv xs < 65536 ^ 16 := by
  have := nv_dig xs (dig_all h)
  rw [h.1] at this
  exact this
theorem dyL_dig (xs : List Int) : Dig (dyL xs 16) := by
  refine ⟨dyL_len xs 16, fun k x hx => ?_⟩
  have hk16 : k < 16 := by have := (List.getElem?_eq_some_iff.1 hx).1; rw [dyL_len] at this; exact this
  rw [dyL, List.getElem?_map, List.getElem?_range hk16] at hx
  injection hx with hx
  subst hx
  exact dy_bd xs k
theorem carL_dig {xs : List Int} (h : Dig xs) : carL xs = xs := by
  have hk : ∀ i, ky xs i = 0 := by
    intro i
    induction i with
    | zero => rfl
    | succ i ih =>
      rw [ky, ih, List.getD_eq_getElem?_getD]
      cases hg : xs[i]? with
      | none => simp
      | some x => have := h.2 i x hg; simp only [Option.getD_some]; omega
  apply List.ext_getElem?
  intro k
  rcases Nat.lt_or_ge k 16 with hk16 | hk16
  · have hx : xs[k]? = some (xs[k]'(by rw [h.1]; exact hk16)) := List.getElem?_eq_getElem (by rw [h.1]; exact hk16)
    rw [carL_get xs k hk16, hx, dy, hk, hk, getD_of hx]
    have := h.2 k _ hx
    congr 1
    split <;> omega
  · rw [List.getElem?_eq_none (by rw [carL_len]; exact hk16), List.getElem?_eq_none (by rw [h.1]; exact hk16)]
theorem nb_nv {xs : List Int} (h : NB xs) : -76 ≤ nv xs ∧ nv xs ≤ 65536 ^ 16 + 75 := by
  obtain ⟨hl, hb⟩ := h
  match xs, hl with
  | x :: xs, hl =>
    have h0 := hb 0 x rfl
    have hr := nv_dig xs fun y hy => by
      obtain ⟨k, hk⟩ := List.getElem?_of_mem hy
      have := hb (k + 1) y (by simpa using hk)
      simpa using this
    have hl15 : xs.length = 15 := by simpa using hl
    rw [hl15] at hr
    simp only [nv] at h0 ⊢
    simp at h0
    have : (65536 : Int) ^ 16 = 65536 * 65536 ^ 15 := by decide
    omega
theorem carL_nb_dig {xs : List Int} (h : NB xs) : Dig (carL xs) := by
  have hv := nb_nv h
  have h1 := dyL_nv xs 16 (by rw [h.1]; omega)
  rw [List.take_of_length_le (by rw [h.1]; omega)] at h1
  have hd := dig_nv (dyL_dig xs)
  have hT : (65536 : Int) ^ 16 = 115792089237316195423570985008687907853269984665640564039457584007913129639936 := by decide
  have hk : ky xs 16 = 0 ∨ ky xs 16 = -1 ∨ ky xs 16 = 1 := by
    rw [hT] at h1 hv hd
    omega
  have h0 : nv (dyL xs 16) = dy xs 0 + 65536 * nv ((dyL xs 16).drop 1) := by rw [dyL_drop]; rfl
  have hr := nv_dig ((dyL xs 16).drop 1) fun y hy => dig_all (dyL_dig xs) y (List.mem_of_mem_drop hy)
  rw [List.length_drop, dyL_len] at hr
  have hT' : (65536 : Int) ^ (16 - 1) = 1766847064778384329583297500742918515827483896875618958121606201292619776 := by decide
  rw [hT'] at hr
  rw [hT] at h1 hv hd
  have hd0 := dy_bd xs 0
  refine ⟨carL_len xs, fun k x hx => ?_⟩
  have hk16 : k < 16 := by have := (List.getElem?_eq_some_iff.1 hx).1; rw [carL_len] at this; exact this
  rw [carL_get xs k hk16] at hx
  injection hx with hx
  have hdk := dy_bd xs k
  subst hx
  split
  · rename_i hk0
    subst hk0
    rcases hk with hk | hk | hk <;> rw [hk] at h1 ⊢ <;> omega
  · omega
theorem carL3 {xs : List Int} (h : NB xs) : carL (carL (carL xs)) = carL xs := by rw [carL_dig (carL_nb_dig h), carL_dig (carL_nb_dig h)]
/-! What is taken away. -/
def pRow : List Int := [65517, 65535, 65535, 65535, 65535, 65535, 65535, 65535, 65535, 65535, 65535, 65535, 65535, 65535, 65535, 32767]
theorem pRow_nv : nv pRow = (Pq : Int) := by unfold Pq; decide +kernel
def suL (t : List Int) : List Int := List.zipWith (· - ·) t pRow
theorem nv_zip : ∀ (xs ys : List Int), xs.length = ys.length → nv (List.zipWith (· - ·) xs ys) = nv xs - nv ys
  | [], [], _ => rfl
  | x :: xs, y :: ys, h => by
    simp only [List.zipWith_cons_cons, nv, nv_zip xs ys (by simpa using h)]
    omega
  | [], _ :: _, h => by simp at h
  | _ :: _, [], h => by simp at h
theorem suL_len {t : List Int} (h : t.length = 16) : (suL t).length = 16 := by unfold suL; rw [List.length_zipWith, h]; rfl
theorem suL_nv {t : List Int} (h : t.length = 16) : nv (suL t) = nv t - (Pq : Int) := by unfold suL; rw [nv_zip _ _ (by rw [h]; rfl), pRow_nv]
/-- A round of the page's Bytes, behind i rows. -/
def suA (t : List Int) (i : Nat) : List Int := dyL (suL t) (i - 1) ++ (((suL t).getD (i - 1) 0 + ky (suL t) (i - 1)) :: t.drop i)
def suE (t : List Int) : List Int := dyL (suL t) 15 ++ [(suL t).getD 15 0 + ky (suL t) 15]
def suN (t : List Int) : List Int := if 0 ≤ (suL t).getD 15 0 + ky (suL t) 15 then suE t else t
theorem suE_nv {t : List Int} (h : t.length = 16) : nv (suE t) = nv t - (Pq : Int) := by
  have h15 : 15 < (suL t).length := by rw [suL_len h]; omega
  have hx : (suL t)[15]? = some (suL t)[15] := List.getElem?_eq_getElem h15
  have h2 := dyL_nv (suL t) 15 (by omega)
  have h3 := nv_take hx
  rw [List.take_of_length_le (by rw [suL_len h]; omega), suL_nv h, ← h2] at h3
  unfold suE
  rw [nv_append, dyL_len, h3, getD_of hx]
  simp only [nv, Int.mul_zero, Int.add_zero]
  rw [Int.mul_add, Int.mul_comm (suL t)[15]]
  omega
theorem suN_spec {t : List Int} (h : Dig t) : Dig (suN t) ∧ nv (suN t) = if (Pq : Int) ≤ nv t then nv t - (Pq : Int) else nv t := by
  have he := suE_nv h.1
  have hn : nv (suE t) = nv (dyL (suL t) 15) + 65536 ^ 15 * ((suL t).getD 15 0 + ky (suL t) 15) := by
    unfold suE
    rw [nv_append, dyL_len]
    simp only [nv, Int.mul_zero, Int.add_zero]
  have hd := nv_dig (dyL (suL t) 15) fun x hx => by
    simp only [dyL, List.mem_map] at hx
    obtain ⟨k, _, rfl⟩ := hx
    exact dy_bd _ _
  rw [dyL_len] at hd
  have ht := dig_nv h
  have hT : (65536 : Int) ^ 16 = 115792089237316195423570985008687907853269984665640564039457584007913129639936 := by decide
  have hT' : (65536 : Int) ^ 15 = 1766847064778384329583297500742918515827483896875618958121606201292619776 := by decide
  rw [hT] at ht
  rw [hT'] at hn hd
  unfold suN
  have hp : (0 : Int) ≤ Pq := Int.natCast_nonneg _
  split
  · rename_i hs
    refine ⟨⟨by unfold suE; rw [List.length_append, dyL_len]; rfl, fun k x hx => ?_⟩, ?_⟩
    · unfold suE at hx
      rcases Nat.lt_or_ge k 15 with hk | hk
      · rw [List.getElem?_append_left (by rw [dyL_len]; exact hk), dyL, List.getElem?_map, List.getElem?_range hk] at hx
        injection hx with hx
        subst hx
        exact dy_bd _ _
      · rw [List.getElem?_append_right (by rw [dyL_len]; exact hk), dyL_len] at hx
        have : k - 15 = 0 := by
          have := (List.getElem?_eq_some_iff.1 hx).1
          simp at this
          omega
        rw [this] at hx
        injection hx with hx
        subst hx
        refine ⟨hs, ?_⟩
        omega
    · rw [if_pos (by omega)]; exact he
  · rename_i hs
    exact ⟨h, by rw [if_neg (by omega)]⟩
/-- The rows of a number that is below p. -/
def bytN (xs : List Int) : List Int := suN (suN (suN (carL xs)))
theorem bytN_spec {xs : List Int} (h : NB xs) : Dig (bytN xs) ∧ nv (bytN xs) = nv xs % (Pq : Int) := by
  obtain ⟨d1, e1⟩ := suN_spec (carL_nb_dig h)
  obtain ⟨d2, e2⟩ := suN_spec d1
  obtain ⟨d3, e3⟩ := suN_spec d2
  refine ⟨d3, ?_⟩
  have hv := dig_nv (carL_nb_dig h)
  have hm := carL_mod xs h.1
  have h3 := dig_nv d3
  rw [← hm]
  have hT : (65536 : Int) ^ 16 = 2 * (Pq : Int) + 38 := by have := two_pq; omega
  rw [hT] at hv
  have hp : (1000000 : Int) < Pq := by have := Pq_256.2; omega
  show nv (suN (suN (suN (carL xs)))) = _
  rw [e3, e2, e1]
  generalize nv (carL xs) = V at *
  generalize (Pq : Int) = p at *
  clear e1 e2 e3 hm h3 hT
  have key : ∀ (V : Int), 0 ≤ V → V < p → V % p = V := fun V h1 h2 => Int.emod_eq_of_lt h1 h2
  by_cases h1 : p ≤ V
  · rw [if_pos h1]
    have e1 : V % p = (V - p) % p := (Int.sub_emod_right V p).symm
    by_cases h2 : p ≤ V - p
    · rw [if_pos h2]
      have e2 : (V - p) % p = (V - p - p) % p := (Int.sub_emod_right (V - p) p).symm
      rw [if_neg (by omega), e1, e2, key _ (by omega) (by omega)]
    · rw [if_neg h2, if_neg h2, e1, key _ (by omega) (by omega)]
  · rw [if_neg h1, if_neg h1, if_neg h1, key _ (by omega) (by omega)]
/-- Rows as bytes. -/
def rowB (x : Int) : List UInt8 := [UInt8.ofNat (x % 256).toNat, UInt8.ofNat (x / 256 % 256).toNat]
theorem rowsB : ∀ (xs : List Int), (∀ x ∈ xs, 0 ≤ x ∧ x < 65536) → xs.flatMap rowB = leB (2 * xs.length) (nv xs).toNat
  | [], _ => rfl
  | x :: xs, h => by
    have ih := rowsB xs fun y hy => h y (List.mem_cons_of_mem _ hy)
    have hx := h x (List.mem_cons_self ..)
    have hn := nv_dig xs fun y hy => h y (List.mem_cons_of_mem _ hy)
    rw [List.flatMap_cons, ih, List.length_cons, show 2 * (xs.length + 1) = (2 * xs.length) + 1 + 1 from by omega]
    simp only [leB, rowB, List.cons_append, List.nil_append, nv]
    have e1 : (x + 65536 * nv xs).toNat % 256 = (x % 256).toNat := by omega
    have e2 : (x + 65536 * nv xs).toNat / 256 % 256 = (x / 256 % 256).toNat := by omega
    have e3 : (x + 65536 * nv xs).toNat / 256 / 256 = (nv xs).toNat := by omega
    rw [e1, e2, e3]
end Go.Proofs.YtkelegjppnfoaaaDoor

/-
  The page's carry.
-/
namespace Go.Proofs.YtkelegjppnfoaaaDoor
open Go.RowKit
set_option linter.unusedSimpArgs false

def ivs (xs : List Int) : List Value := xs.map (.int .i64 ·)
theorem ivs_len (xs : List Int) : (ivs xs).length = xs.length := by simp [ivs]
theorem ivs_get {xs : List Int} {k : Nat} {x : Int} (h : xs[k]? = some x) : (ivs xs).toArray[k]? = some (.int .i64 x) := by simp [ivs, h]
theorem ivs_set (xs : List Int) (k : Nat) (x : Int) : (ivs xs).toArray.setIfInBounds k (.int .i64 x) = (ivs (xs.set k x)).toArray := by simp [ivs, List.map_set]
theorem ivs_all (xs : List Int) : (ivs xs).toArray.all (·.oneCell') = true := by
  rw [Array.all_eq_true_iff_forall_mem]
  intro v hv
  simp only [ivs, List.mem_toArray, List.mem_map] at hv
  obtain ⟨x, _, rfl⟩ := hv
  rfl
def CyB (xs : List Int) : Prop := xs.length = 16 ∧ (∀ i, -1152921504606846976 ≤ xs.getD i 0 ∧ xs.getD i 0 ≤ 1152921504606846976 ∧ -1152921504606846976 ≤ ky xs i ∧ ky xs i ≤ 1152921504606846976) ∧ -72057594037927936 ≤ ky xs 16 ∧ ky xs 16 ≤ 72057594037927936
end Go.Proofs.YtkelegjppnfoaaaDoor

/-
  The page's Add, Sub.
-/
namespace Go.Proofs.YtkelegjppnfoaaaDoor
open Go.RowKit
set_option linter.unusedSimpArgs false

section
variable {P : Program} {ops : Array Oper} {rest : List Oper} {o : Oper} {a : Act} {w : World} {Q : Exit → Act → World → Prop}
theorem wl_callN (hgd : o.guard = none) {f : FuncId} {xs : List Operand} {ts : Array TypeId} {vs : List Value} {R : Ending → World → Prop}
    (ho : o.op = .call { callee := .value (.func f), args := xs.toArray, argTypes := ts }) (hf : ∀ (args : Array Value) (w : World), (callFunc f args).run P w = .ok (.enter f args) w)
    (hx : xs.map a.eval = vs) (hc : Calls P f vs.toArray w R) (h : ∀ e w', R e w' → ∃ v, e = .returned v ∧ wpList P ops Q rest (a.put o.dst v) w') : wpList P ops Q (o :: rest) a w :=
  wpList_plain hgd fun _ hK => wp_call ho hf hx hc fun e w' hr => by
    obtain ⟨v, he, hk⟩ := h e w' hr
    exact ⟨v, he, hK _ _ hk⟩
end
def zpF (f : Int → Int → Int) (xs ys : List Int) (i : Nat) : List Int := (List.zipWith f xs ys).take i ++ xs.drop i
theorem zpF_zero (f : Int → Int → Int) (xs ys : List Int) : zpF f xs ys 0 = xs := by simp [zpF]
theorem zpF_all (f : Int → Int → Int) (xs ys : List Int) (h : xs.length = 16) (h2 : ys.length = 16) : zpF f xs ys 16 = List.zipWith f xs ys := by
  unfold zpF
  rw [List.take_of_length_le (by rw [List.length_zipWith, h, h2]; omega), List.drop_of_length_le (by omega), List.append_nil]
theorem zpF_get (f : Int → Int → Int) (xs ys : List Int) (i : Nat) (x : Int) (h : xs.length = 16) (h2 : ys.length = 16) (hx : xs[i]? = some x) : (zpF f xs ys i)[i]? = some x := by
  have hi := (List.getElem?_eq_some_iff.1 hx).1
  have hl : ((List.zipWith f xs ys).take i).length = i := by rw [List.length_take, List.length_zipWith, h, h2]; omega
  unfold zpF
  rw [List.getElem?_append_right (by rw [hl]; omega), hl, Nat.sub_self, List.getElem?_drop, Nat.add_zero, hx]
theorem zpF_set (f : Int → Int → Int) (xs ys : List Int) (i : Nat) (x y : Int) (h : xs.length = 16) (h2 : ys.length = 16) (hx : xs[i]? = some x) (hy : ys[i]? = some y) : (zpF f xs ys i).set i (f x y) = zpF f xs ys (i + 1) := by
  have hi := (List.getElem?_eq_some_iff.1 hx).1
  have hl : ((List.zipWith f xs ys).take i).length = i := by rw [List.length_take, List.length_zipWith, h, h2]; omega
  have hz : (List.zipWith f xs ys)[i]? = some (f x y) := by rw [List.getElem?_zipWith, hx, hy]
  unfold zpF
  rw [List.set_append_right _ _ (by rw [hl]; omega), hl, Nat.sub_self, List.drop_eq_getElem_cons (by omega), List.set_cons_zero, List.take_add_one, hz, List.append_assoc]
  rfl
/-- Rows of the page's numbers: bounds of a sum. -/
def SmR (xs : List Int) : Prop := xs.length = 16 ∧ ∀ k, -65700 ≤ xs.getD k 0 ∧ xs.getD k 0 ≤ 131300
theorem cyB_small {xs : List Int} (h : xs.length = 16) (h1 : ∀ (k : Nat) (x : Int), xs[k]? = some x → -131300 ≤ x ∧ x ≤ 131300) : CyB xs := by
  have hb := ky_bd xs 131300 (by omega) h1
  refine ⟨h, fun i => ?_, by have := hb 16; omega, by have := hb 16; omega⟩
  have := hb i
  have hx : -131300 ≤ xs.getD i 0 ∧ xs.getD i 0 ≤ 131300 := by
    rw [List.getD_eq_getElem?_getD]
    cases hg : xs[i]? with
    | none => simp only [Option.getD_none]; omega
    | some x => exact h1 i x hg
  omega
theorem nb_get {xs : List Int} (h : NB xs) {k : Nat} (hk : k < 16) : ∃ x, xs[k]? = some x ∧ -76 ≤ x ∧ x < 65612 := by
  have hx : xs[k]? = some (xs[k]'(by rw [h.1]; exact hk)) := List.getElem?_eq_getElem (by rw [h.1]; exact hk)
  have := h.2 k _ hx
  refine ⟨_, hx, ?_⟩
  split at this <;> omega
theorem zip_get {f : Int → Int → Int} {xs ys : List Int} {k : Nat} {z : Int} (h : (List.zipWith f xs ys)[k]? = some z) : ∃ x y, xs[k]? = some x ∧ ys[k]? = some y ∧ z = f x y := by
  rw [List.getElem?_zipWith] at h
  cases hx : xs[k]? with
  | none => rw [hx] at h; simp at h
  | some x =>
    cases hy : ys[k]? with
    | none => rw [hx, hy] at h; simp at h
    | some y => rw [hx, hy] at h; simp at h; exact ⟨x, y, rfl, rfl, h.symm⟩
theorem nv_zipAdd : ∀ (xs ys : List Int), xs.length = ys.length → nv (List.zipWith (· + ·) xs ys) = nv xs + nv ys
  | [], [], _ => rfl
  | x :: xs, y :: ys, h => by
    simp only [List.zipWith_cons_cons, nv, nv_zipAdd xs ys (by simpa using h)]
    omega
  | [], _ :: _, h => by simp at h
  | _ :: _, [], h => by simp at h
theorem nb_addN {xs ys : List Int} (h : NB xs) (h2 : NB ys) : NB (carL (List.zipWith (· + ·) xs ys)) := by
  refine carL_nb1 _ fun k z hz => ?_
  obtain ⟨x, y, hx, hy, rfl⟩ := zip_get hz
  have b1 := h.2 k x hx
  have b2 := h2.2 k y hy
  split at b1 <;> split at b2 <;> first | omega | (split <;> omega)
theorem nb_subN {xs ys : List Int} (h : NB xs) (h2 : NB ys) : NB (carL (List.zipWith (· - ·) xs ys)) := by
  refine carL_nb1 _ fun k z hz => ?_
  obtain ⟨x, y, hx, hy, rfl⟩ := zip_get hz
  have b1 := h.2 k x hx
  have b2 := h2.2 k y hy
  split at b1 <;> split at b2 <;> first | omega | (split <;> omega)
end Go.Proofs.YtkelegjppnfoaaaDoor

/-
  The page's Mul.
-/
namespace Go.Proofs.YtkelegjppnfoaaaDoor
open Go.RowKit
set_option linter.unusedSimpArgs false

def muR (a : Int) (b : List Int) (i : Nat) : Nat → List Int → List Int
  | 0, t => t
  | j + 1, t => (muR a b i j t).set (i + j) ((muR a b i j t).getD (i + j) 0 + a * b.getD j 0)
def muT (us vs : List Int) : Nat → List Int
  | 0 => List.replicate 31 0
  | i + 1 => muR (us.getD i 0) vs i 16 (muT us vs i)
theorem muR_len (a : Int) (b : List Int) (i : Nat) (t : List Int) : ∀ j, (muR a b i j t).length = t.length
  | 0 => rfl
  | j + 1 => by rw [muR, List.length_set, muR_len a b i t j]
theorem muT_len (us vs : List Int) : ∀ i, (muT us vs i).length = 31
  | 0 => rfl
  | i + 1 => by rw [muT, muR_len, muT_len us vs i]
theorem getD_set (xs : List Int) (k j : Nat) (y : Int) : (xs.set k y).getD j 0 = if k = j ∧ k < xs.length then y else xs.getD j 0 := by
  simp only [List.getD_eq_getElem?_getD, List.getElem?_set]
  split
  · rename_i h
    subst h
    split
    · rename_i h; rw [if_pos ⟨rfl, h⟩]; rfl
    · rename_i h; rw [if_neg (fun x => h x.2), List.getElem?_eq_none (by omega)]
  · rename_i h
    rw [if_neg (fun x => h x.1)]
theorem muR_bd (a : Int) (b : List Int) (i : Nat) (t : List Int) (C M : Int) (hM : 0 ≤ M) (ht : ∀ k, -C ≤ t.getD k 0 ∧ t.getD k 0 ≤ C) (hm : ∀ k, -M ≤ a * b.getD k 0 ∧ a * b.getD k 0 ≤ M) :
    ∀ (j : Nat) (k : Nat), -(C + j * M) ≤ (muR a b i j t).getD k 0 ∧ (muR a b i j t).getD k 0 ≤ C + j * M
  | 0, k => by have := ht k; simp only [muR]; omega
  | j + 1, k => by
    have ih := muR_bd a b i t C M hM ht hm j
    have h1 := ih k
    have h2 := ih (i + j)
    have h3 := hm j
    rw [muR, getD_set]
    have e : ((j + 1 : Nat) : Int) * M = (j : Int) * M + M := by rw [Int.natCast_add, Int.add_mul]; omega
    rw [e]
    split <;> omega
theorem muT_bd (us vs : List Int) (M : Int) (hM : 0 ≤ M) (hm : ∀ i k, -M ≤ us.getD i 0 * vs.getD k 0 ∧ us.getD i 0 * vs.getD k 0 ≤ M) : ∀ (i k : Nat), -(16 * i * M) ≤ (muT us vs i).getD k 0 ∧ (muT us vs i).getD k 0 ≤ 16 * i * M
  | 0, k => by
    have : (List.replicate 31 (0 : Int)).getD k 0 = 0 := by rw [List.getD_eq_getElem?_getD, List.getElem?_replicate]; split <;> rfl
    rw [muT, this]
    omega
  | i + 1, k => by
    have := muR_bd (us.getD i 0) vs i (muT us vs i) (16 * i * M) M hM (muT_bd us vs M hM hm i) (hm i) 16 k
    have e : 16 * ((i + 1 : Nat) : Int) * M = 16 * (i : Int) * M + ((16 : Nat) : Int) * M := by rw [Int.natCast_add, Int.mul_add, Int.add_mul]; rfl
    rw [e]
    exact this
theorem nv_set : ∀ (xs : List Int) (k : Nat) (y : Int), k < xs.length → nv (xs.set k y) = nv xs + (y - xs.getD k 0) * 65536 ^ k
  | [], k, y, h => by simp at h
  | x :: xs, 0, y, h => by simp [nv]; omega
  | x :: xs, k + 1, y, h => by
    have ih := nv_set xs k y (by simpa using h)
    simp only [List.set_cons_succ, nv, List.getD_cons_succ, ih, Int.pow_succ, Int.mul_add]
    rw [show 65536 * ((y - xs.getD k 0) * 65536 ^ k) = (y - xs.getD k 0) * (65536 ^ k * 65536) from by rw [Int.mul_comm 65536, Int.mul_assoc]]
    omega
theorem muR_nv (a : Int) (b : List Int) (i : Nat) (t : List Int) (hb : b.length = 16) : ∀ j, j ≤ 16 → i + j ≤ t.length → nv (muR a b i j t) = nv t + a * 65536 ^ i * nv (b.take j)
  | 0, _, _ => by simp [muR, nv]
  | j + 1, hj, h => by
    have hx : b[j]? = some b[j] := List.getElem?_eq_getElem (by omega)
    rw [muR, nv_set _ _ _ (by rw [muR_len]; omega), muR_nv a b i t hb j (by omega) (by omega), nv_take hx, getD_of hx, Int.pow_add,
      show (muR a b i j t).getD (i + j) 0 + a * b[j] - (muR a b i j t).getD (i + j) 0 = a * b[j] from by omega]
    have : a * b[j] * (65536 ^ i * 65536 ^ j) = a * 65536 ^ i * (b[j] * 65536 ^ j) := by grind
    rw [this, Int.mul_add]
    omega
theorem muT_nv (us vs : List Int) (ha : us.length = 16) (hb : vs.length = 16) : ∀ i, i ≤ 15 + 1 → nv (muT us vs i) = nv (us.take i) * nv vs
  | 0, _ => by simp only [muT, List.take_zero, nv, Int.zero_mul]; decide
  | i + 1, h => by
    have hx : us[i]? = some us[i] := List.getElem?_eq_getElem (by omega)
    rw [muT, muR_nv _ _ _ _ hb 16 (by omega) (by rw [muT_len]; omega), muT_nv us vs ha hb i (by omega), nv_take hx, getD_of hx, List.take_of_length_le (l := vs) (i := 16) (by omega), Int.add_mul]
def oNL (t : List Int) : List Int := List.zipWith (fun x y => x + 38 * y) (t.take 16) (t.drop 16 ++ [0])
theorem nv_zip38 : ∀ (xs ys : List Int), xs.length = ys.length → nv (List.zipWith (fun x y => x + 38 * y) xs ys) = nv xs + 38 * nv ys
  | [], [], _ => rfl
  | x :: xs, y :: ys, h => by
    simp only [List.zipWith_cons_cons, nv, nv_zip38 xs ys (by simpa using h)]
    omega
  | [], _ :: _, h => by simp at h
  | _ :: _, [], h => by simp at h
theorem oNL_len {t : List Int} (h : t.length = 31) : (oNL t).length = 16 := by unfold oNL; rw [List.length_zipWith, List.length_take, List.length_append, List.length_drop, h]; rfl
theorem oNL_nv {t : List Int} (h : t.length = 31) : nv (oNL t) % (Pq : Int) = nv t % (Pq : Int) := by
  have h1 : nv t = nv (t.take 16) + 65536 ^ 16 * nv (t.drop 16) := by
    have := nv_append (t.take 16) (t.drop 16)
    rw [List.take_append_drop, List.length_take, h] at this
    exact this
  have h2 : nv (oNL t) = nv (t.take 16) + 38 * nv (t.drop 16) := by
    unfold oNL
    rw [nv_zip38 _ _ (by rw [List.length_take, List.length_append, List.length_drop, h]; rfl), nv_append]
    simp only [nv]
    omega
  have h3 : nv t = nv (oNL t) + (Pq : Int) * (2 * nv (t.drop 16)) := by
    have := two_pq
    rw [h1, h2, show (65536 : Int) ^ 16 = 2 * (Pq : Int) + 38 from by omega, Int.add_mul]
    have : (Pq : Int) * (2 * nv (t.drop 16)) = 2 * (Pq : Int) * nv (t.drop 16) := by rw [← Int.mul_assoc, Int.mul_comm (Pq : Int) 2]
    omega
  rw [h3, Int.add_mul_emod_self_left]
theorem oNL_get {t : List Int} (h : t.length = 31) {i : Nat} (hi : i < 16) : (oNL t)[i]? = some (t.getD i 0 + 38 * t.getD (i + 16) 0) := by
  have e1 : (t.take 16)[i]? = some (t.getD i 0) := by
    rw [List.getElem?_take_of_lt hi, List.getD_eq_getElem?_getD, List.getElem?_eq_getElem (by omega)]; rfl
  have e2 : (t.drop 16 ++ [0])[i]? = some (t.getD (i + 16) 0) := by
    rcases Nat.lt_or_ge i 15 with h15 | h15
    · rw [List.getElem?_append_left (by rw [List.length_drop]; omega), List.getElem?_drop, Nat.add_comm, List.getD_eq_getElem?_getD, List.getElem?_eq_getElem (by omega)]; rfl
    · obtain rfl : i = 15 := by omega
      rw [List.getElem?_append_right (by rw [List.length_drop, h]; omega), List.length_drop, h, List.getD_eq_getElem?_getD, List.getElem?_eq_none (l := t) (by omega)]
      rfl
  unfold oNL
  rw [List.getElem?_zipWith, e1, e2]
def oNP (t : List Int) (i : Nat) : List Int := (oNL t).take i ++ List.replicate (16 - i) 0
theorem oNP_get {t : List Int} (h : t.length = 31) {i : Nat} (hi : i < 16) : (oNP t i)[i]? = some 0 := by
  unfold oNP
  rw [List.getElem?_append_right (by rw [List.length_take, oNL_len h]; omega), List.length_take, oNL_len h, List.getElem?_replicate, if_pos (by omega)]
theorem oNP_set {t : List Int} (h : t.length = 31) {i : Nat} (hi : i < 16) : (oNP t i).set i (t.getD i 0 + 38 * t.getD (i + 16) 0) = oNP t (i + 1) := by
  unfold oNP
  have hl : ((oNL t).take i).length = i := by rw [List.length_take, oNL_len h]; omega
  rw [List.set_append_right _ _ (by rw [hl]; exact Nat.le_refl _), hl, Nat.sub_self, show 16 - i = (16 - (i + 1)) + 1 from by omega, List.replicate_succ, List.set_cons_zero, List.take_add_one, oNL_get h hi, List.append_assoc]
  rfl
theorem oNP_len {t : List Int} (h : t.length = 31) {i : Nat} (hi : i ≤ 16) : (oNP t i).length = 16 := by
  unfold oNP; rw [List.length_append, List.length_take, oNL_len h, List.length_replicate]; omega
def muN (xs ys : List Int) : List Int := carL (carL (oNL (muT xs ys 16)))
theorem nb_getD {xs : List Int} (h : NB xs) (k : Nat) : -76 ≤ xs.getD k 0 ∧ xs.getD k 0 < 65612 := by
  rw [List.getD_eq_getElem?_getD]
  cases hg : xs[k]? with
  | none => simp only [Option.getD_none]; omega
  | some x => have := h.2 k x hg; simp only [Option.getD_some]; split at this <;> omega
theorem nb_prod {xs ys : List Int} (h : NB xs) (h2 : NB ys) (i k : Nat) : -8589934592 ≤ xs.getD i 0 * ys.getD k 0 ∧ xs.getD i 0 * ys.getD k 0 ≤ 8589934592 := by
  have h1 := nb_getD h i
  have h2 := nb_getD h2 k
  generalize xs.getD i 0 = x at *
  generalize ys.getD k 0 = y at *
  have e1 : (x + 76) * (y + 76) = x * y + 76 * x + 76 * y + 5776 := by grind
  have e2 : 0 ≤ (x + 76) * (y + 76) := Int.mul_nonneg (by omega) (by omega)
  have e3 : (x + 76) * (y + 76) ≤ 65688 * 65688 := Int.mul_le_mul (by omega) (by omega) (by omega) (by omega)
  omega
theorem mu_len31 {xs : List Int} {k : Nat} (h : xs.length = 31) (hk : k < 31) : xs[k]? = some (xs.getD k 0) := by
  rw [List.getD_eq_getElem?_getD, List.getElem?_eq_getElem (by omega)]; rfl
theorem len16 {xs : List Int} {k : Nat} (h : xs.length = 16) (hk : k < 16) : xs[k]? = some (xs.getD k 0) := by
  rw [List.getD_eq_getElem?_getD, List.getElem?_eq_getElem (by omega)]; rfl
theorem oNL_bd {t : List Int} (h : t.length = 31) (C : Int) (hC : 0 ≤ C) (ht : ∀ k, -C ≤ t.getD k 0 ∧ t.getD k 0 ≤ C) (k : Nat) (x : Int) (hx : (oNL t)[k]? = some x) : -(39 * C) ≤ x ∧ x ≤ 39 * C := by
  have hk : k < 16 := by have := (List.getElem?_eq_some_iff.1 hx).1; rw [oNL_len h] at this; exact this
  rw [oNL_get h hk] at hx
  injection hx with hx
  have h1 := ht k
  have h2 := ht (k + 16)
  subst hx
  omega
/-- The product, as the page keeps it. -/
theorem muN_ok {xs ys : List Int} (h : NB xs) (h2 : NB ys) : NB (muN xs ys) ∧ nv (muN xs ys) % (Pq : Int) = nv xs * nv ys % (Pq : Int) := by
  have hT31 := muT_len xs ys 16
  have hB16 := muT_bd xs ys 8589934592 (by omega) (nb_prod h h2) 16
  have hC1 := carL_long (oNL (muT xs ys 16)) 171523813933056 (by omega) (by omega) (fun k x hx => by
    have := oNL_bd hT31 4398046511104 (by omega) (fun k => by have := hB16 k; omega) k x hx
    omega)
  refine ⟨carL_nb2 _ hC1, ?_⟩
  have hv := muT_nv xs ys h.1 h2.1 16 (by omega)
  rw [List.take_of_length_le (by rw [h.1]; omega)] at hv
  unfold muN
  rw [carL_mod _ (carL_len _), carL_mod _ (oNL_len hT31), oNL_nv hT31, hv]
end Go.Proofs.YtkelegjppnfoaaaDoor

/-
  The page's Bytes.
-/
namespace Go.Proofs.YtkelegjppnfoaaaDoor
open Go.RowKit
set_option linter.unusedSimpArgs false

theorem suL_get {t : List Int} (h : t.length = 16) {i : Nat} (hi : i < 16) : (suL t).getD i 0 = t.getD i 0 - pRow.getD i 0 := by
  unfold suL
  rw [List.getD_eq_getElem?_getD, List.getElem?_zipWith, len16 h hi, len16 (xs := pRow) rfl hi]
  rfl
theorem pRow_mid {i : Nat} (h1 : 1 ≤ i) (h2 : i < 15) : pRow.getD i 0 = 65535 := by
  match i, h1, h2 with
  | 1, _, _ => rfl
  | 2, _, _ => rfl
  | 3, _, _ => rfl
  | 4, _, _ => rfl
  | 5, _, _ => rfl
  | 6, _, _ => rfl
  | 7, _, _ => rfl
  | 8, _, _ => rfl
  | 9, _, _ => rfl
  | 10, _, _ => rfl
  | 11, _, _ => rfl
  | 12, _, _ => rfl
  | 13, _, _ => rfl
  | 14, _, _ => rfl
/-- The row behind i rounds (i from 1 on): digits, the row under work, what is left. -/
theorem suA_one {t : List Int} (h : t.length = 16) : t.set 0 (t.getD 0 0 - 65517) = suA t 1 := by
  match t, h with
  | x :: t, h =>
    unfold suA
    rw [suL_get h (by omega)]
    simp [dyL, ky, pRow]
theorem suA_at {t : List Int} (h : t.length = 16) {i : Nat} (h1 : 1 ≤ i) (hi : i ≤ 16) : (suA t i)[i - 1]? = some ((suL t).getD (i - 1) 0 + ky (suL t) (i - 1)) := by
  unfold suA
  rw [List.getElem?_append_right (by rw [dyL_len]; omega), dyL_len, Nat.sub_self]
  rfl
theorem suA_next {t : List Int} (h : t.length = 16) {i : Nat} (h1 : 1 ≤ i) (hi : i < 16) : (suA t i)[i]? = some (t.getD i 0) := by
  obtain ⟨k, rfl⟩ : ∃ k, i = k + 1 := ⟨i - 1, by omega⟩
  unfold suA
  rw [Nat.add_sub_cancel, List.getElem?_append_right (by rw [dyL_len]; omega), dyL_len, Nat.add_sub_cancel_left, List.getElem?_cons_succ, List.getElem?_drop, Nat.add_zero]
  exact len16 h hi
theorem suA_len {t : List Int} (h : t.length = 16) {i : Nat} (h1 : 1 ≤ i) (hi : i ≤ 16) : (suA t i).length = 16 := by
  unfold suA
  rw [List.length_append, dyL_len, List.length_cons, List.length_drop, h]
  omega
theorem suA_step {t : List Int} (h : t.length = 16) {i : Nat} (h1 : 1 ≤ i) (hi : i < 16) :
    ((suA t i).set i ((suL t).getD i 0 + ky (suL t) i)).set (i - 1) (dy (suL t) (i - 1)) = suA t (i + 1) := by
  obtain ⟨k, rfl⟩ : ∃ k, i = k + 1 := ⟨i - 1, by omega⟩
  have hd : t.drop (k + 1) = t.getD (k + 1) 0 :: t.drop (k + 2) := by
    have := len16 h hi
    rw [List.getElem?_eq_getElem (by omega)] at this
    injection this with this
    rw [List.drop_eq_getElem_cons (by omega), this]
  unfold suA
  rw [Nat.add_sub_cancel, Nat.add_sub_cancel, List.set_append_right _ _ (by rw [dyL_len]; omega), dyL_len, Nat.add_sub_cancel_left, List.set_cons_succ, hd, List.set_cons_zero,
    List.set_append_right _ _ (by rw [dyL_len]; omega), dyL_len, Nat.sub_self, List.set_cons_zero, dyL_succ, List.append_assoc]
  rfl
theorem suA_end {t : List Int} (h : t.length = 16) : suA t 16 = suE t := by
  unfold suA suE
  rw [List.drop_of_length_le (by omega)]
theorem suL_bd {t : List Int} (h : Dig t) {i : Nat} (hi : i < 16) : -65535 ≤ (suL t).getD i 0 ∧ (suL t).getD i 0 ≤ 65535 := by
  rw [suL_get h.1 hi]
  have h1 := h.2 i _ (len16 h.1 hi)
  have h2 : 0 ≤ pRow.getD i 0 ∧ pRow.getD i 0 ≤ 65535 := by
    have : ∀ j : Fin 16, 0 ≤ pRow.getD j.val 0 ∧ pRow.getD j.val 0 ≤ 65535 := by decide
    exact this ⟨i, hi⟩
  omega
theorem suL_ky {t : List Int} (h : Dig t) : ∀ i, i ≤ 16 → -1 ≤ ky (suL t) i ∧ ky (suL t) i ≤ 0
  | 0, _ => by simp [ky]
  | i + 1, hi => by
    have ih := suL_ky h i (by omega)
    have hb := suL_bd h (i := i) (by omega)
    have hz : (suL t).getD i 0 + ky (suL t) i ≤ 65535 := by omega
    rw [ky]
    omega
theorem set_same {xs : List Int} {k : Nat} {x : Int} (h : xs[k]? = some x) : xs.set k x = xs := by
  apply List.ext_getElem?
  intro j
  rw [List.getElem?_set]
  have hk := (List.getElem?_eq_some_iff.1 h).1
  split
  · rename_i e
    subst e
    simp [h]
  · rfl
def byN (ts : List Int) (k : Nat) : List UInt8 := (ts.take k).flatMap rowB
theorem byN_len (ts : List Int) (h : ts.length = 16) : ∀ k, k ≤ 16 → (byN ts k).length = 2 * k
  | 0, _ => rfl
  | k + 1, hk => by
    unfold byN
    rw [List.take_add_one, len16 h hk, Option.toList_some, List.flatMap_append, List.length_append]
    have := byN_len ts h k (by omega)
    unfold byN at this
    rw [this]
    rfl
theorem byN_succ (ts : List Int) (h : ts.length = 16) (k : Nat) (hk : k < 16) : byN ts (k + 1) = byN ts k ++ rowB (ts.getD k 0) := by
  unfold byN
  rw [List.take_add_one, len16 h hk, Option.toList_some, List.flatMap_append]
  simp
def suNi (t : List Int) : Nat → List Int
  | 0 => t
  | k + 1 => suN (suNi t k)
theorem suNi_dig {t : List Int} (h : Dig t) : ∀ k, Dig (suNi t k)
  | 0 => h
  | k + 1 => (suN_spec (suNi_dig h k)).1
def BvRel (w : World) (t : List Int) (bv iv : Value) (wr : World) : Prop :=
  ∃ (i : Nat) (A : Option Addr) (c : Nat), i ≤ 16 ∧ iv = .int .i64 (i : Int) ∧ bv = .slice A (2 * i) c ∧ St w NoB wr [.row (.slice A (2 * i) c) 5 1 (2 * i) (bvs (byN t i))]
theorem cyB_nb {xs : List Int} (h : NB xs) : CyB xs := cyB_small h.1 (fun k x hx => by have := h.2 k x hx; split at this <;> omega)
theorem dig_nb {xs : List Int} (h : Dig xs) : NB xs := ⟨h.1, fun k x hx => by have := h.2 k x hx; split <;> omega⟩
end Go.Proofs.YtkelegjppnfoaaaDoor

/-
  The page's FromBytes, Small.
-/
namespace Go.Proofs.YtkelegjppnfoaaaDoor
open Go.RowKit
set_option linter.unusedSimpArgs false

theorem rd_at' {w : World} {B : Option Addr} {n d : Nat} {xs : List Value} {k : Nat} {u : Value} (h : Rd w (.slice B n d) 1 n xs) (hk : xs[k]? = some u) : ∃ b o, B = some ⟨b, o, none⟩ ∧ w.cell? ⟨b, o + k, none⟩ = some u := by
  rcases h.cases with ⟨_, _, h0⟩ | ⟨b, o, sp, c', hv, _, _, _, hl, h4, hc⟩
  · rw [h0] at hk; simp at hk
  · injection hv with hv1 _ _
    have hkl : k < xs.length := (List.getElem?_eq_some_iff.1 hk).1
    have := h4 (by omega)
    subst this hv1
    exact ⟨b, o, rfl, hc k u hk⟩
/-- The page's number behind k bytes. -/
def frL (l : List UInt8) : Nat → List Int
  | 0 => List.replicate 16 0
  | k + 1 => (frL l k).set (k / 2) ((frL l k).getD (k / 2) 0 + ((l.getD k 0).toNat : Int) * 256 ^ (k % 2))
theorem frL_len (l : List UInt8) : ∀ k, (frL l k).length = 16
  | 0 => rfl
  | k + 1 => by rw [frL, List.length_set, frL_len l k]
theorem frL_bd (l : List UInt8) : ∀ (k j : Nat), 0 ≤ (frL l k).getD j 0 ∧ (frL l k).getD j 0 ≤ (if 2 * j < k then 255 else 0) + (if 2 * j + 1 < k then 65280 else 0)
  | 0, j => by
    have : (List.replicate 16 (0 : Int)).getD j 0 = 0 := by rw [List.getD_eq_getElem?_getD, List.getElem?_replicate]; split <;> rfl
    rw [frL, this]
    simp
  | k + 1, j => by
    have ih := frL_bd l k j
    have ih2 := frL_bd l k (k / 2)
    have hc := UInt8.toNat_lt (l.getD k 0)
    rw [frL, getD_set]
    split
    · rename_i h
      obtain ⟨h, _⟩ := h
      subst h
      rcases Nat.mod_two_eq_zero_or_one k with hm | hm
      · rw [hm, Int.pow_zero, Int.mul_one]
        rw [if_neg (by omega), if_neg (by omega)] at ih2
        rw [if_pos (by omega), if_neg (by omega)]
        omega
      · rw [hm, Int.pow_one]
        rw [if_pos (by omega), if_neg (by omega)] at ih2
        rw [if_pos (by omega), if_pos (by omega)]
        omega
    · refine ⟨ih.1, Int.le_trans ih.2 ?_⟩
      split <;> split <;> split <;> split <;> omega
theorem frL_nv (l : List UInt8) : ∀ k, k ≤ 32 → k ≤ l.length → nv (frL l k) = (bval (l.take k) : Int)
  | 0, _, _ => by rw [List.take_zero]; rfl
  | k + 1, hk, hl => by
    have hx : l[k]? = some l[k] := List.getElem?_eq_getElem (by omega)
    have hg : l.getD k 0 = l[k] := by rw [List.getD_eq_getElem?_getD, hx]; rfl
    have e : (256 : Int) ^ (k % 2) * 65536 ^ (k / 2) = 256 ^ k := by
      rw [show (65536 : Int) = 256 ^ 2 from rfl, ← Int.pow_mul, ← Int.pow_add]
      congr 1
      omega
    rw [frL, nv_set _ _ _ (by rw [frL_len]; omega), frL_nv l k (by omega) (by omega), bval_take hx, hg]
    rw [show (frL l k).getD (k / 2) 0 + ((l[k]).toNat : Int) * 256 ^ (k % 2) - (frL l k).getD (k / 2) 0 = ((l[k]).toNat : Int) * 256 ^ (k % 2) from by omega, Int.mul_assoc, e]
    rw [Int.natCast_add, Int.natCast_mul, Int.natCast_pow]
    rfl
theorem bval_fullT (l : List UInt8) : bval (fullL l) = bval (l.take (min l.length 32)) := by
  unfold fullL
  rcases Nat.le_total l.length 32 with h | h
  · rw [Nat.min_eq_left h, List.take_of_length_le (Nat.le_refl _), List.take_append, List.take_of_length_le h, bval_append, List.take_replicate, bval_zeros]
    omega
  · rw [Nat.min_eq_right h, List.take_append_of_le_length h]
/-- Rows that stand for an element of the field. -/
def NE (xs : List Int) (X : FK) : Prop := NB xs ∧ nv xs % (Pq : Int) = (X.val : Int)
theorem frL_ne (l : List UInt8) : NE (frL l (min l.length 32)) (fbytes l) := by
  refine ⟨⟨frL_len _ _, fun k x hx => ?_⟩, ?_⟩
  · have h := frL_bd l (min l.length 32) k
    rw [getD_of hx] at h
    split at h <;> split at h <;> split <;> omega
  · rw [frL_nv l _ (Nat.min_le_right _ _) (Nat.min_le_left _ _), ← bval_fullT]
    rfl
theorem ne_small (n : Nat) (h : n < 4294967296) : NB [((n % 65536 : Nat) : Int), ((n / 65536 : Nat) : Int), 0, 0, 0, 0, 0, 0, 0, 0, 0, 0, 0, 0, 0, 0] ∧ nv [((n % 65536 : Nat) : Int), ((n / 65536 : Nat) : Int), 0, 0, 0, 0, 0, 0, 0, 0, 0, 0, 0, 0, 0, 0] = (n : Int) := by
  refine ⟨⟨rfl, fun k x hx => ?_⟩, by simp only [nv]; omega⟩
  match k, hx with
  | 0, hx => simp at hx; subst hx; omega
  | 1, hx => simp at hx; subst hx; omega
  | k + 2, hx =>
    have : x = 0 := by
      have hm := List.mem_of_getElem? hx
      have h2 := List.mem_of_getElem? (l := List.replicate 14 (0 : Int)) (i := k) (a := x) (by simpa using hx)
      exact (List.mem_replicate.1 h2).2
    subst this
    simp
end Go.Proofs.YtkelegjppnfoaaaDoor

/-
  The page's numbers as elements of the field: what its functions answer.
-/
namespace Go.Proofs.YtkelegjppnfoaaaDoor
open Go.RowKit
set_option linter.unusedSimpArgs false

theorem pq_cast (n : Nat) : ((n % Pq : Nat) : Int) = (n : Int) % (Pq : Int) := Int.natCast_emod n Pq
theorem ne_add {xs ys : List Int} {X Y : FK} (h : NE xs X) (h2 : NE ys Y) : NE (carL (List.zipWith (· + ·) xs ys)) (X + Y) := by
  refine ⟨nb_addN h.1 h2.1, ?_⟩
  rw [carL_mod _ (by rw [List.length_zipWith, h.1.1, h2.1.1]; rfl), nv_zipAdd _ _ (by rw [h.1.1, h2.1.1]), fadd_val, pq_cast, Int.natCast_add, ← h.2, ← h2.2, ← Int.add_emod]
theorem ne_sub {xs ys : List Int} {X Y : FK} (h : NE xs X) (h2 : NE ys Y) : NE (carL (List.zipWith (· - ·) xs ys)) (X - Y) := by
  refine ⟨nb_subN h.1 h2.1, ?_⟩
  have hy := Y.isLt
  rw [carL_mod _ (by rw [List.length_zipWith, h.1.1, h2.1.1]; rfl), nv_zip _ _ (by rw [h.1.1, h2.1.1]), fsub_val, pq_cast, Int.natCast_add, Int.natCast_sub (by omega), ← h.2, ← h2.2]
  rw [show nv xs % (Pq : Int) + ((Pq : Int) - nv ys % (Pq : Int)) = nv xs % (Pq : Int) - nv ys % (Pq : Int) + (Pq : Int) from by omega, Int.add_emod_right, ← Int.sub_emod]
theorem ne_mul {xs ys : List Int} {X Y : FK} (h : NE xs X) (h2 : NE ys Y) : NE (muN xs ys) (X * Y) := by
  obtain ⟨h3, h4⟩ := muN_ok h.1 h2.1
  refine ⟨h3, ?_⟩
  rw [h4, fmul_val, pq_cast, Int.natCast_mul, ← h.2, ← h2.2, ← Int.mul_emod]
theorem ne_toNat {xs : List Int} {X : FK} (h : NE xs X) : (nv xs % (Pq : Int)).toNat = X.val := by rw [h.2]; rfl
def zerN : List Int := List.replicate 16 0
theorem ne_zero : NE zerN 0 := by
  refine ⟨⟨rfl, fun k x hx => ?_⟩, ?_⟩
  · have := (List.mem_replicate.1 (List.mem_of_getElem? hx)).2
    subst this
    split <;> omega
  · rw [fzero_val]
    show nv (List.replicate 16 0) % _ = _
    rw [show nv (List.replicate 16 0) = 0 from by decide]
    simp
def ResN (w : World) (X : FK) (e : Ending) (w' : World) : Prop := ∃ zs, NE zs X ∧ e = .returned (.agg (ivs zs).toArray) ∧ Below w.heap.size w w'
section
variable {xs ys : List Int} {X Y : FK}
end
theorem leB_injP {x y : Nat} (hx : x < Pq) (hy : y < Pq) (h : leB 32 x = leB 32 y) : x = y := by
  have hp := Pq_256.1
  have h1 := bval_leB 32 x
  have h2 := bval_leB 32 y
  rw [Nat.mod_eq_of_lt (by omega)] at h1 h2
  rw [← h1, ← h2, h]
theorem leB_beq (X Y : FK) : (leB 32 X.val == leB 32 Y.val) = decide (X.val = Y.val) := by
  by_cases h : X.val = Y.val
  · rw [h]; simp
  · rw [decide_eq_false h, beq_eq_false_iff_ne]
    exact fun e => h (leB_injP X.isLt Y.isLt e)
end Go.Proofs.YtkelegjppnfoaaaDoor

/-
  The page's Odd, power, Inv; the law's same.
-/
namespace Go.Proofs.YtkelegjppnfoaaaDoor
open Go.RowKit
set_option linter.unusedSimpArgs false

theorem and_one8 (n : Nat) (h : n < 256) : bits .and .u8 (n : Int) 1 = ((n % 2 : Nat) : Int) := by
  rw [show n % 2 = n &&& 1 from (Nat.and_two_pow_sub_one_eq_mod n 1).symm]
  exact u8_and_nat n 1 h (by omega)
/-! Powers. -/
def fpw (X : FK) (e : Nat) : FK := ⟨X.val ^ e % Pq, Nat.mod_lt _ pq_pos⟩
theorem fpw_val (X : FK) (e : Nat) : (fpw X e).val = X.val ^ e % Pq := rfl
theorem fpw_mul (X : FK) (e f : Nat) : fpw X e * fpw X f = fpw X (e + f) := Fin.ext (by rw [fmul_val, fpw_val, fpw_val, fpw_val, Nat.pow_add, ← Nat.mul_mod])
theorem fpw_one (X : FK) : fpw X 1 = X := Fin.ext (by rw [fpw_val, Nat.pow_one]; exact Nat.mod_eq_of_lt X.isLt)
theorem fpw_zero (X : FK) : (fpw X 0).val = 1 := by rw [fpw_val, Nat.pow_zero]; exact Nat.mod_eq_of_lt (by have := Pq_256.2; omega)
/-- The exponent of the bits from number k on. -/
def bitE (bs : List Bool) : Nat → Nat
  | 0 => 0
  | j + 1 => 2 * bitE bs j + (if bs.getD (254 - j) false then 1 else 0)
def blv (bs : List Bool) : List Value := bs.map Value.bool
theorem blv_len (bs : List Bool) : (blv bs).length = bs.length := by simp [blv]
theorem blv_get {bs : List Bool} {k : Nat} {x : Bool} (h : bs[k]? = some x) : (blv bs).toArray[k]? = some (.bool x) := by simp [blv, h]
theorem ivs_size {zs : List Int} {X : FK} (h : NE zs X) : (ivs zs).toArray.size = 16 := by rw [List.size_toArray, ivs_len]; exact h.1.1
/-! The inverse. -/
def invB (i : Nat) : List Bool := (List.range 255).map (fun j => decide (j < i ∧ j ≠ 2 ∧ j ≠ 4))
theorem invB_len (i : Nat) : (invB i).length = 255 := by simp [invB]
theorem invB_get (i k : Nat) (h : k < 255) : (invB i)[k]? = some (decide (k < i ∧ k ≠ 2 ∧ k ≠ 4)) := by
  unfold invB
  rw [List.getElem?_map, List.getElem?_range h]
  rfl
theorem invB_set (i : Nat) (h : i < 255) : (invB i).set i (decide (i ≠ 2 ∧ i ≠ 4)) = invB (i + 1) := by
  apply List.ext_getElem?
  intro k
  rcases Nat.lt_or_ge k 255 with hk | hk
  · rw [invB_get _ _ hk, List.getElem?_set]
    split
    · rename_i e
      subst e
      rw [if_pos (by rw [invB_len]; exact hk)]
      congr 1
      rw [decide_eq_decide]
      omega
    · rw [invB_get _ _ hk]
      congr 1
      rw [decide_eq_decide]
      omega
  · rw [List.getElem?_eq_none (by rw [List.length_set, invB_len]; exact hk), List.getElem?_eq_none (by rw [invB_len]; exact hk)]
theorem invBE : bitE (invB 255) 255 = Pq - 2 := by unfold Pq; decide +kernel
theorem fpw_inv (X : FK) : fpw X (Pq - 2) = finv X := Fin.ext (by rw [fpw_val, finv_val])
theorem blv_set (bs : List Bool) (k : Nat) (b : Bool) : (blv bs).toArray.setIfInBounds k (.bool b) = (blv (bs.set k b)).toArray := by simp [blv, List.map_set]
end Go.Proofs.YtkelegjppnfoaaaDoor

/-
  Elements and the page's numbers as arrays that nobody looks into: what their functions answer.
-/
namespace Go.Proofs.YtkelegjppnfoaaaDoor
open Go.RowKit
set_option linter.unusedSimpArgs false

/-- An element that stands for X. -/
structure EA (a : Array Value) (X : FK) : Prop where
  ex : ∃ p q s t u : Nat, a = #[.int .u64 (p : Int), .int .u64 (q : Int), .int .u64 (s : Int), .int .u64 (t : Int), .int .u64 (u : Int)] ∧ ev [p, q, s, t, u] = X.val ∧ Red [p, q, s, t, u]
theorem EA.arr {a : Array Value} {X : FK} (h : EA a X) : Arr 5 a := by
  obtain ⟨p, q, s, t, u, rfl, _, _⟩ := h.ex
  exact ⟨rfl, by simp [Value.oneCell']⟩
/-- A number of the page's that stands for X. -/
structure NA (a : Array Value) (X : FK) : Prop where
  ex : ∃ xs, a = (ivs xs).toArray ∧ NE xs X
theorem NA.arr {a : Array Value} {X : FK} (h : NA a X) : Arr 16 a := by
  obtain ⟨xs, rfl, hx⟩ := h.ex
  exact ⟨ivs_size hx, by rw [List.all_toArray, List.all_eq_true]; intro v hv; unfold ivs at hv; obtain ⟨n, _, rfl⟩ := List.mem_map.1 hv; rfl⟩
def ResE (w : World) (X : FK) (e : Ending) (w' : World) : Prop := ∃ z, EA z X ∧ e = .returned (.agg z) ∧ Below w.heap.size w w'
def ResA (w : World) (X : FK) (e : Ending) (w' : World) : Prop := ∃ z, NA z X ∧ e = .returned (.agg z) ∧ Below w.heap.size w w'
theorem ResN.ra {w : World} {X : FK} {e : Ending} {w' : World} (h : ResN w X e w') : ResA w X e w' := by
  obtain ⟨zs, h1, h2, h3⟩ := h
  exact ⟨_, ⟨zs, rfl, h1⟩, h2, h3⟩
theorem res_of {w : World} {X : FK} {e : Ending} {w' : World} (h : ∃ p q s t u : Nat, ev [p, q, s, t, u] = X.val ∧ Red [p, q, s, t, u] ∧ e = .returned (.agg #[.int .u64 (p : Int), .int .u64 (q : Int), .int .u64 (s : Int), .int .u64 (t : Int), .int .u64 (u : Int)]) ∧ Below w.heap.size w w') : ResE w X e w' := by
  obtain ⟨p, q, s, t, u, h1, h2, h3, h4⟩ := h
  exact ⟨_, ⟨p, q, s, t, u, rfl, h1, h2⟩, h3, h4⟩
section
variable {a b : Array Value} {X Y : FK} (w : World)
theorem addA (ha : EA a X) (hb : EA b Y) : Calls Tryd.prog 45 #[.agg a, .agg b] w (ResE w (X + Y)) := by
  obtain ⟨_, _, _, _, _, rfl, h1, h2⟩ := ha.ex
  obtain ⟨_, _, _, _, _, rfl, h3, h4⟩ := hb.ex
  exact (addE h1 h2 h3 h4).mono fun _ _ h => res_of h
theorem subA (ha : EA a X) (hb : EA b Y) : Calls Tryd.prog 43 #[.agg a, .agg b] w (ResE w (X - Y)) := by
  obtain ⟨_, _, _, _, _, rfl, h1, h2⟩ := ha.ex
  obtain ⟨_, _, _, _, _, rfl, h3, h4⟩ := hb.ex
  exact (subE h1 h2 h3 h4).mono fun _ _ h => res_of h
theorem mulA (ha : EA a X) (hb : EA b Y) : Calls Tryd.prog 33 #[.agg a, .agg b] w (ResE w (X * Y)) := by
  obtain ⟨_, _, _, _, _, rfl, h1, h2⟩ := ha.ex
  obtain ⟨_, _, _, _, _, rfl, h3, h4⟩ := hb.ex
  exact (mulE h1 h2 h3 h4).mono fun _ _ h => res_of h
theorem negA (ha : EA a X) : Calls Tryd.prog 46 #[.agg a] w (ResE w (-X)) := by
  obtain ⟨_, _, _, _, _, rfl, h1, h2⟩ := ha.ex
  exact (negE h1 h2).mono fun _ _ h => res_of h
theorem invA (ha : EA a X) : Calls Tryd.prog 32 #[.agg a] w (ResE w (finv X)) := by
  obtain ⟨_, _, _, _, _, rfl, h1, h2⟩ := ha.ex
  exact (invE h1 h2).mono fun _ _ h => res_of h
theorem sameA (ha : EA a X) (hb : EA b Y) : Calls Tryd.prog 61 #[.agg a, .agg b] w fun e w' => e = .returned (.bool (decide (X = Y))) ∧ Below w.heap.size w w' := by
  obtain ⟨_, _, _, _, _, rfl, h1, h2⟩ := ha.ex
  obtain ⟨_, _, _, _, _, rfl, h3, h4⟩ := hb.ex
  have e : decide (X = Y) = decide (X.val = Y.val) := by
    by_cases h : X = Y
    · rw [decide_eq_true h, decide_eq_true (congrArg _ h)]
    · rw [decide_eq_false h, decide_eq_false fun e => h (Fin.ext e)]
  rw [e]
  exact sameE h1 h2 h3 h4
theorem zeroA (ha : EA a X) : Calls Tryd.prog 55 #[.agg a] w fun e w' => e = .returned (.bool (decide (X = 0))) ∧ Below w.heap.size w w' := by
  obtain ⟨_, _, _, _, _, rfl, h1, h2⟩ := ha.ex
  have e : decide (X = 0) = decide (X.val = 0) := by
    by_cases h : X = 0
    · rw [decide_eq_true h, decide_eq_true (by rw [h, fzero_val])]
    · rw [decide_eq_false h, decide_eq_false fun e => h (Fin.ext (e.trans fzero_val.symm))]
  rw [e]
  exact zeroE h1 h2
theorem oddA (ha : EA a X) : Calls Tryd.prog 35 #[.agg a] w fun e w' => e = .returned (.bool (decide (X.val % 2 = 1))) ∧ Below w.heap.size w w' := by
  obtain ⟨_, _, _, _, _, rfl, h1, h2⟩ := ha.ex
  exact oddE h1 h2
theorem bytesA (ha : EA a X) : Calls Tryd.prog 34 #[.agg a] w (ResB 5 w (leB 32 X.val)) := by
  obtain ⟨_, _, _, _, _, rfl, h1, h2⟩ := ha.ex
  rw [← h1]
  exact bytes_walk _ _ _ _ _ w (red_low h2)
theorem small1A : Calls Tryd.prog 44 #[.int .u32 1] w (ResE w 1) := (small1 w).mono fun _ _ h => res_of h
theorem small_is (n : Nat) (m : Int) (hm : (n : Int) = m) (w : World) (h : n < 4294967296) : Calls Tryd.prog 44 #[.int .u32 m] w fun r w' => ∃ p q s t u : Nat, ev [p, q, s, t, u] = n ∧ Red [p, q, s, t, u] ∧ r = .returned (.agg #[.int .u64 (p : Int), .int .u64 (q : Int), .int .u64 (s : Int), .int .u64 (t : Int), .int .u64 (u : Int)]) ∧ Below w.heap.size w w' := by
  subst hm
  exact smallE n w h
theorem toF_two : (toF 2).val = 2 := Nat.mod_eq_of_lt (by have := Pq_256.2; omega)
theorem small2A : Calls Tryd.prog 44 #[.int .u32 2] w (ResE w (toF 2)) := by
  have h := small_is 2 2 rfl w (by decide)
  exact h.mono fun e w' ⟨p, q, s, t, u, h1, h2, h3, h4⟩ => res_of ⟨p, q, s, t, u, h1.trans toF_two.symm, h2, h3, h4⟩
theorem fromA {A : Option Addr} {n c : Nat} {l : List UInt8} (hl : l.length = n) (hn : n ≤ 1000) (hr : Rd w (.slice A n c) 1 n (bvs l)) : Calls Tryd.prog 41 #[.slice A n c] w (ResE w (fbytes l)) :=
  (fromE hl hn hr).mono fun _ _ h => res_of h
theorem pow_of {z : Nat} {n : Nat} (h : z = X.val ^ n % Pq) : z = (fpow X n).val := h
theorem pexp1 : pexp 252 2 252 = 2 ^ 252 - 3 := by decide +kernel
theorem pexp2 : pexp 253 4 253 = 2 ^ 253 - 5 := by decide +kernel
theorem powA1 (ha : EA a X) : Calls Tryd.prog 56 #[.agg a, .int .i64 252, .int .u64 2] w (ResE w (fpow X (2 ^ 252 - 3))) := by
  obtain ⟨_, _, _, _, _, rfl, h1, h2⟩ := ha.ex
  have h := power_walk _ _ _ _ _ 252 2 w h2 (by decide) (by decide) (by decide)
  simp only [pexp1, h1, ← fpow_val] at h
  exact h.mono fun _ _ h => res_of h
theorem powA2 (ha : EA a X) : Calls Tryd.prog 56 #[.agg a, .int .i64 253, .int .u64 4] w (ResE w (fpow X (2 ^ 253 - 5))) := by
  obtain ⟨_, _, _, _, _, rfl, h1, h2⟩ := ha.ex
  have h := power_walk _ _ _ _ _ 253 4 w h2 (by decide) (by decide) (by decide)
  simp only [pexp2, h1, ← fpow_val] at h
  exact h.mono fun _ _ h => res_of h
/-- The root of -1, by a power of two. -/
theorem two_root : fpow (toF 2) (2 ^ 253 - 5) = iF := Fin.ext (by
  refine fpow_pm (toF 2) _ 256 _ (by decide) ?_
  rw [toF_two]
  show _ = iN
  unfold Pq iN
  decide +kernel)
theorem ea_zero : EA #[.int .u64 0, .int .u64 0, .int .u64 0, .int .u64 0, .int .u64 0] 0 := ⟨0, 0, 0, 0, 0, rfl, by rw [fzero_val]; unfold ev fv fv fv fv fv fv; simp, ⟨rfl, fun k x hx => by
  have hx0 : x = 0 := by
    have := List.mem_of_getElem? hx
    simpa using this
  subst hx0
  unfold T51
  omega⟩⟩
def lD : List Nat := [163, 120, 89, 19, 202, 77, 235, 117, 171, 216, 65, 65, 77, 10, 112, 0, 152, 232, 121, 119, 121, 64, 199, 140, 115, 254, 111, 43, 238, 108, 3, 82]
theorem nD_text : strOf (hexT lD) = ⟨#[53, 50, 48, 51, 54, 99, 101, 101, 50, 98, 54, 102, 102, 101, 55, 51, 56, 99, 99, 55, 52, 48, 55, 57, 55, 55, 55, 57, 101, 56, 57, 56, 48, 48, 55, 48, 48, 97, 52, 100, 52, 49, 52, 49, 100, 56, 97, 98, 55, 53, 101, 98, 52, 100, 99, 97, 49, 51, 53, 57, 55, 56, 97, 51]⟩ := by rw [strOf_eq]; rfl
theorem nD_val : fbytes (byL lD) = dF := Fin.ext (by decide +kernel)
theorem numD : Calls Tryd.prog 28 #[.string ⟨#[53, 50, 48, 51, 54, 99, 101, 101, 50, 98, 54, 102, 102, 101, 55, 51, 56, 99, 99, 55, 52, 48, 55, 57, 55, 55, 55, 57, 101, 56, 57, 56, 48, 48, 55, 48, 48, 97, 52, 100, 52, 49, 52, 49, 100, 56, 97, 98, 55, 53, 101, 98, 52, 100, 99, 97, 49, 51, 53, 57, 55, 56, 97, 51]⟩] w (ResE w (dF)) := by
  have h := number_any lD (by decide) (by decide) w
  rw [nD_text, nD_val] at h
  exact h.mono fun _ _ h => res_of h
def lX : List Nat := [26, 213, 37, 143, 96, 45, 86, 201, 178, 167, 37, 149, 96, 199, 44, 105, 92, 220, 214, 253, 49, 226, 164, 192, 254, 83, 110, 205, 211, 54, 105, 33]
theorem nX_text : strOf (hexT lX) = ⟨#[50, 49, 54, 57, 51, 54, 100, 51, 99, 100, 54, 101, 53, 51, 102, 101, 99, 48, 97, 52, 101, 50, 51, 49, 102, 100, 100, 54, 100, 99, 53, 99, 54, 57, 50, 99, 99, 55, 54, 48, 57, 53, 50, 53, 97, 55, 98, 50, 99, 57, 53, 54, 50, 100, 54, 48, 56, 102, 50, 53, 100, 53, 49, 97]⟩ := by rw [strOf_eq]; rfl
theorem nX_val : fbytes (byL lX) = toF bxV := Fin.ext (by decide +kernel)
theorem numX : Calls Tryd.prog 28 #[.string ⟨#[50, 49, 54, 57, 51, 54, 100, 51, 99, 100, 54, 101, 53, 51, 102, 101, 99, 48, 97, 52, 101, 50, 51, 49, 102, 100, 100, 54, 100, 99, 53, 99, 54, 57, 50, 99, 99, 55, 54, 48, 57, 53, 50, 53, 97, 55, 98, 50, 99, 57, 53, 54, 50, 100, 54, 48, 56, 102, 50, 53, 100, 53, 49, 97]⟩] w (ResE w (toF bxV)) := by
  have h := number_any lX (by decide) (by decide) w
  rw [nX_text, nX_val] at h
  exact h.mono fun _ _ h => res_of h
def lY : List Nat := [88, 102, 102, 102, 102, 102, 102, 102, 102, 102, 102, 102, 102, 102, 102, 102, 102, 102, 102, 102, 102, 102, 102, 102, 102, 102, 102, 102, 102, 102, 102, 102]
theorem nY_text : strOf (hexT lY) = ⟨#[54, 54, 54, 54, 54, 54, 54, 54, 54, 54, 54, 54, 54, 54, 54, 54, 54, 54, 54, 54, 54, 54, 54, 54, 54, 54, 54, 54, 54, 54, 54, 54, 54, 54, 54, 54, 54, 54, 54, 54, 54, 54, 54, 54, 54, 54, 54, 54, 54, 54, 54, 54, 54, 54, 54, 54, 54, 54, 54, 54, 54, 54, 53, 56]⟩ := by rw [strOf_eq]; rfl
theorem nY_val : fbytes (byL lY) = toF byV := Fin.ext (by decide +kernel)
theorem numY : Calls Tryd.prog 28 #[.string ⟨#[54, 54, 54, 54, 54, 54, 54, 54, 54, 54, 54, 54, 54, 54, 54, 54, 54, 54, 54, 54, 54, 54, 54, 54, 54, 54, 54, 54, 54, 54, 54, 54, 54, 54, 54, 54, 54, 54, 54, 54, 54, 54, 54, 54, 54, 54, 54, 54, 54, 54, 54, 54, 54, 54, 54, 54, 54, 54, 54, 54, 54, 54, 53, 56]⟩] w (ResE w (toF byV)) := by
  have h := number_any lY (by decide) (by decide) w
  rw [nY_text, nY_val] at h
  exact h.mono fun _ _ h => res_of h

theorem na_zero : NA (ivs (List.replicate 16 0)).toArray 0 := ⟨_, rfl, ne_zero⟩
theorem ne_of (n : Nat) (rows : List Int) (hl : rows.length = 16) (hb : rows.all (fun x => decide (0 ≤ x) && decide (x < 65536)) = true) (hv : nv rows = (n : Int)) : NE rows (toF n) := by
  refine ⟨⟨hl, fun k x hx => ?_⟩, ?_⟩
  · have := List.all_eq_true.1 hb x (List.mem_of_getElem? hx)
    rw [Bool.and_eq_true, decide_eq_true_eq, decide_eq_true_eq] at this
    split <;> omega
  · rw [hv]
    show _ = ((n % Pq : Nat) : Int)
    rw [Int.natCast_emod]
end
end Go.Proofs.YtkelegjppnfoaaaDoor

/-
  Layer 4: the code's points: one of x and y; the sum of two.
-/
namespace Go.Proofs.YtkelegjppnfoaaaDoor
open Go.RowKit
set_option linter.unusedSimpArgs false

def zE : Array Value := #[.int .u64 0, .int .u64 0, .int .u64 0, .int .u64 0, .int .u64 0]
def zP : Array Value := #[.int .u64 0, .int .u64 0, .int .u64 0, .int .u64 0, .int .u64 0, .int .u64 0, .int .u64 0, .int .u64 0, .int .u64 0, .int .u64 0, .int .u64 0, .int .u64 0, .int .u64 0, .int .u64 0, .int .u64 0, .int .u64 0, .int .u64 0, .int .u64 0, .int .u64 0, .int .u64 0]
def zN : Array Value := (ivs (List.replicate 16 0)).toArray
def zQ : Array Value := (ivs (List.replicate 64 0)).toArray
theorem rowE : RowOf Tryd.prog 34 5 := ⟨⟨_, Tryd.underlying34, rfl⟩, by kernel_rfl⟩
theorem rowP : RowOf Tryd.prog 36 20 := ⟨⟨_, Tryd.underlying36, rfl⟩, by kernel_rfl⟩
theorem newE : NewOf Tryd.prog 34 zE := fun x => by kernel_rfl
theorem newP : NewOf Tryd.prog 36 zP := fun x => by kernel_rfl
theorem arr_zE : Arr 5 zE := ⟨rfl, by kernel_rfl⟩
theorem arr_zP : Arr 20 zP := ⟨rfl, by kernel_rfl⟩
theorem arr_zN : Arr 16 zN := ⟨by kernel_rfl, by kernel_rfl⟩
theorem arr_zQ : Arr 64 zQ := ⟨by kernel_rfl, by kernel_rfl⟩
theorem qE {a b c d : Array Value} {X Y Z T : FK} (h1 : EA a X) (h2 : EA b Y) (h3 : EA c Z) (h4 : EA d T) : Arr 20 (quad a b c d) := quad_arr h1.arr h2.arr h3.arr h4.arr rfl
theorem qN {a b c d : Array Value} {X Y Z T : FK} (h1 : NA a X) (h2 : NA b Y) (h3 : NA c Z) (h4 : NA d T) : Arr 64 (quad a b c d) := quad_arr h1.arr h2.arr h3.arr h4.arr rfl
theorem ea_zE : EA zE 0 := ea_zero
theorem na_zN : NA zN 0 := na_zero
theorem exE {a : Array Value} {X : FK} (h : EA a X) : ∃ X, EA a X := ⟨_, h⟩
theorem exN {a : Array Value} {X : FK} (h : NA a X) : ∃ X, NA a X := ⟨_, h⟩
theorem arr16 {a : Array Value} (h : a.size = 16) : ∃ a0 a1 a2 a3 a4 a5 a6 a7 a8 a9 a10 a11 a12 a13 a14 a15 : Value, a = #[a0, a1, a2, a3, a4, a5, a6, a7, a8, a9, a10, a11, a12, a13, a14, a15] := by
  obtain ⟨l⟩ := a
  match l, h with
  | [a0, a1, a2, a3, a4, a5, a6, a7, a8, a9, a10, a11, a12, a13, a14, a15], _ => exact ⟨a0, a1, a2, a3, a4, a5, a6, a7, a8, a9, a10, a11, a12, a13, a14, a15, rfl⟩
theorem buildP : BuildOf Tryd.prog 36 (fun a => ∃ X, EA a X) := fun a b c d ha hb hc hd => by
  obtain ⟨_, ha⟩ := ha
  obtain ⟨_, hb⟩ := hb
  obtain ⟨_, hc⟩ := hc
  obtain ⟨_, hd⟩ := hd
  obtain ⟨_, _, _, _, _, rfl, _, _⟩ := ha.ex
  obtain ⟨_, _, _, _, _, rfl, _, _⟩ := hb.ex
  obtain ⟨_, _, _, _, _, rfl, _, _⟩ := hc.ex
  obtain ⟨_, _, _, _, _, rfl, _, _⟩ := hd.ex
  kernel_rfl
/-- A point's four numbers. -/
def ResP (w : World) (A : Pj) (e : Ending) (w' : World) : Prop := ∃ a b c d, EA a A.X ∧ EA b A.Y ∧ EA c A.Z ∧ EA d A.T ∧ e = .returned (.agg (quad a b c d)) ∧ Below w.heap.size w w'
set_option maxRecDepth 100000 in
set_option maxHeartbeats 1600000 in
theorem at_any {a b : Array Value} {X Y : FK} (w : World) (hea : EA a X) (heb : EA b Y) : Calls Tryd.prog 27 #[.agg a, .agg b] w (ResP w ⟨X, Y, 1, X * Y⟩) := by
  have HS := hide (St.init w NoB)
  go_enter Tryd.func27, Tryd.ntmps27
  go_wp2_with (first | (refine wl_loadP rfl rfl rfl HS.out (by (repeat first | exact .head _ | apply List.Mem.tail)) (by first | exact rowE | exact rowP | exact rowN | exact rowQ) (by (first | exact .q0 (EA.arr ‹_›) | exact .q1 (EA.arr ‹_›) (EA.arr ‹_›) | exact .q2 (EA.arr ‹_›) (EA.arr ‹_›) (EA.arr ‹_›) | exact .q3 (EA.arr ‹_›) (EA.arr ‹_›) (EA.arr ‹_›) (EA.arr ‹_›) | exact .q0 (NA.arr ‹_›) | exact .q1 (NA.arr ‹_›) (NA.arr ‹_›) | exact .q2 (NA.arr ‹_›) (NA.arr ‹_›) (NA.arr ‹_›) | exact .q3 (NA.arr ‹_›) (NA.arr ‹_›) (NA.arr ‹_›) (NA.arr ‹_›) | exact .all (by (first | exact EA.arr ‹_› | exact NA.arr ‹_› | exact arr_zE | exact arr_zN | exact arr_zP | exact arr_zQ | exact PtN.arr ‹_› | exact PtV.arr ‹_› | exact QtN.arr ‹_› | exact qE ‹_› ‹_› ‹_› ‹_› | exact qN ‹_› ‹_› ‹_› ‹_›)))) ?_; (try simp only [Act.put, nq1, nq2, nq3, nq4, nq5, nq6])) | (refine wl_storeR rfl rfl rfl rfl HS.out (by first | exact rowE | exact rowP | exact rowN | exact rowQ) (by (repeat first | exact .head | apply Upd.tail)) (by (first | exact EA.arr ‹_› | exact NA.arr ‹_› | exact arr_zE | exact arr_zN | exact arr_zP | exact arr_zQ | exact PtN.arr ‹_› | exact PtV.arr ‹_› | exact QtN.arr ‹_› | exact qE ‹_› ‹_› ‹_› ‹_› | exact qN ‹_› ‹_› ‹_› ‹_›)) (by (first | exact EA.arr ‹_› | exact NA.arr ‹_› | exact arr_zE | exact arr_zN | exact arr_zP | exact arr_zQ | exact PtN.arr ‹_› | exact PtV.arr ‹_› | exact QtN.arr ‹_› | exact qE ‹_› ‹_› ‹_› ‹_› | exact qN ‹_› ‹_› ‹_› ‹_›)) ?_; intro wz hS9; have HS := hide hS9; clear hS9; (try simp only [Act.put, nq1, nq2, nq3, nq4, nq5, nq6])) | (refine wl_allocR rfl rfl HS.out (by first | exact newE | exact newP | exact newN | exact newQ) ?_; intro gz wz hS9; have HS := hide hS9; clear hS9; (try simp only [Act.put, nq1, nq2, nq3, nq4, nq5, nq6])) | (refine wl_boxR rfl rfl rfl HS.out ?_; intro gz wz hS9; have HS := hide hS9; clear hS9; (try simp only [Act.put, nq1, nq2, nq3, nq4, nq5, nq6])) | (refine wpT_loadP rfl rfl rfl rfl HS.out (by (repeat first | exact .head _ | apply List.Mem.tail)) (by first | exact rowE | exact rowP | exact rowN | exact rowQ) (by (first | exact .q0 (EA.arr ‹_›) | exact .q1 (EA.arr ‹_›) (EA.arr ‹_›) | exact .q2 (EA.arr ‹_›) (EA.arr ‹_›) (EA.arr ‹_›) | exact .q3 (EA.arr ‹_›) (EA.arr ‹_›) (EA.arr ‹_›) (EA.arr ‹_›) | exact .q0 (NA.arr ‹_›) | exact .q1 (NA.arr ‹_›) (NA.arr ‹_›) | exact .q2 (NA.arr ‹_›) (NA.arr ‹_›) (NA.arr ‹_›) | exact .q3 (NA.arr ‹_›) (NA.arr ‹_›) (NA.arr ‹_›) (NA.arr ‹_›) | exact .all (by (first | exact EA.arr ‹_› | exact NA.arr ‹_› | exact arr_zE | exact arr_zN | exact arr_zP | exact arr_zQ | exact PtN.arr ‹_› | exact PtV.arr ‹_› | exact QtN.arr ‹_› | exact qE ‹_› ‹_› ‹_› ‹_› | exact qN ‹_› ‹_› ‹_› ‹_›)))) ?_; (try simp only [Act.put, nq1, nq2, nq3, nq4, nq5, nq6])) | (refine wpT_pure rfl rfl (fun x => run_build4 rfl rfl rfl rfl rfl buildP (exE (by assumption)) (exE (by assumption)) (exE (by assumption)) (exE (by assumption)) x) ?_; (try simp only [Act.put, nq1, nq2, nq3, nq4, nq5, nq6])) | (refine wpT_pure rfl rfl (fun x => run_build4 rfl rfl rfl rfl rfl buildQ (exN (by assumption)) (exN (by assumption)) (exN (by assumption)) (exN (by assumption)) x) ?_; (try simp only [Act.put, nq1, nq2, nq3, nq4, nq5, nq6])) | (refine wpT_late rfl rfl ?_; intro K hK; refine wp_storeR rfl rfl rfl HS.out (by first | exact rowE | exact rowP | exact rowN | exact rowQ) (by (repeat first | exact .head | apply Upd.tail)) (by (first | exact EA.arr ‹_› | exact NA.arr ‹_› | exact arr_zE | exact arr_zN | exact arr_zP | exact arr_zQ | exact PtN.arr ‹_› | exact PtV.arr ‹_› | exact QtN.arr ‹_› | exact qE ‹_› ‹_› ‹_› ‹_› | exact qN ‹_› ‹_› ‹_› ‹_›)) (by (first | exact EA.arr ‹_› | exact NA.arr ‹_› | exact arr_zE | exact arr_zN | exact arr_zP | exact arr_zQ | exact PtN.arr ‹_› | exact PtV.arr ‹_› | exact QtN.arr ‹_› | exact qE ‹_› ‹_› ‹_› ‹_› | exact qN ‹_› ‹_› ‹_› ‹_›)) ?_; intro wz hS9; have HS := hide hS9; clear hS9) | (refine wpT_any rfl rfl ?_; intro K hK; refine wp_storeR rfl rfl rfl HS.out (by first | exact rowE | exact rowP | exact rowN | exact rowQ) (by (repeat first | exact .head | apply Upd.tail)) (by (first | exact EA.arr ‹_› | exact NA.arr ‹_› | exact arr_zE | exact arr_zN | exact arr_zP | exact arr_zQ | exact PtN.arr ‹_› | exact PtV.arr ‹_› | exact QtN.arr ‹_› | exact qE ‹_› ‹_› ‹_› ‹_› | exact qN ‹_› ‹_› ‹_› ‹_›)) (by (first | exact EA.arr ‹_› | exact NA.arr ‹_› | exact arr_zE | exact arr_zN | exact arr_zP | exact arr_zQ | exact PtN.arr ‹_› | exact PtV.arr ‹_› | exact QtN.arr ‹_› | exact qE ‹_› ‹_› ‹_› ‹_› | exact qN ‹_› ‹_› ‹_› ‹_›)) ?_; intro wz hS9; have HS := hide hS9; clear hS9) | (refine wpX_loadP rfl rfl rfl rfl HS.out (by (repeat first | exact .head _ | apply List.Mem.tail)) (by first | exact rowE | exact rowP | exact rowN | exact rowQ) (by (first | exact .q0 (EA.arr ‹_›) | exact .q1 (EA.arr ‹_›) (EA.arr ‹_›) | exact .q2 (EA.arr ‹_›) (EA.arr ‹_›) (EA.arr ‹_›) | exact .q3 (EA.arr ‹_›) (EA.arr ‹_›) (EA.arr ‹_›) (EA.arr ‹_›) | exact .q0 (NA.arr ‹_›) | exact .q1 (NA.arr ‹_›) (NA.arr ‹_›) | exact .q2 (NA.arr ‹_›) (NA.arr ‹_›) (NA.arr ‹_›) | exact .q3 (NA.arr ‹_›) (NA.arr ‹_›) (NA.arr ‹_›) (NA.arr ‹_›) | exact .all (by (first | exact EA.arr ‹_› | exact NA.arr ‹_› | exact arr_zE | exact arr_zN | exact arr_zP | exact arr_zQ | exact PtN.arr ‹_› | exact PtV.arr ‹_› | exact QtN.arr ‹_› | exact qE ‹_› ‹_› ‹_› ‹_› | exact qN ‹_› ‹_› ‹_› ‹_›)))) ?_; (try simp only [Act.put, nq1, nq2, nq3, nq4, nq5, nq6])) | (refine wpX_pure rfl rfl (fun x => run_build4 rfl rfl rfl rfl rfl buildP (exE (by assumption)) (exE (by assumption)) (exE (by assumption)) (exE (by assumption)) x) ?_; (try simp only [Act.put, nq1, nq2, nq3, nq4, nq5, nq6])) | (refine wpX_pure rfl rfl (fun x => run_build4 rfl rfl rfl rfl rfl buildQ (exN (by assumption)) (exN (by assumption)) (exN (by assumption)) (exN (by assumption)) x) ?_; (try simp only [Act.put, nq1, nq2, nq3, nq4, nq5, nq6])) | (refine wpX_nil ?_; intro G xz hx0 hx hF; have hS9 := HS.out.floats hx0 hF _ (by decide) (fun _ h => h); simp only [List.map_cons, List.map_nil, List.cons_append, List.nil_append] at hS9; have HS := hide hS9; clear hS9 hF hx0 hx; simp only [putsE, List.foldl_cons, List.foldl_nil]; (try simp only [Act.put, nq1, nq2, nq3, nq4, nq5, nq6])) | (refine wpX_pure (v := ?_) rfl rfl ?_ ?_; rotate_left; (intro wx; go_simp; try go_bits) <;> (with_reducible rfl); (try simp only [Act.put, nq1, nq2, nq3, nq4, nq5, nq6])) | (refine wpX_call rfl rfl ?_; intro xc hxc K hK) | (refine wpX_skip rfl rfl ?_; (try simp only [Act.put, nq1, nq2, nq3, nq4, nq5, nq6])))
  have HS := hide HS.out.drew
  refine wp_region_T [(0, 0), (1, 0), (3, 0), (4, 0), (2, 2), (5, 2), (6, 1), (7, 3)] (by kernel_rfl) (by kernel_rfl) (fun _ _ _ _ h => h) ?_
  go_wp2_with (first | (go_at_call 44; (with_reducible refine (small1A _).mono ?_); rintro e wy ⟨z, hz, rfl, hb⟩; try have HS := hide (HS.out.call hb)) | (go_at_call 33; (with_reducible refine (mulA _ (by assumption) (by assumption)).mono ?_); rintro e wy ⟨z, hz, rfl, hb⟩; try have HS := hide (HS.out.call hb)) | (go_at_call 45; (with_reducible refine (addA _ (by assumption) (by assumption)).mono ?_); rintro e wy ⟨z, hz, rfl, hb⟩; try have HS := hide (HS.out.call hb)) | (go_at_call 43; (with_reducible refine (subA _ (by assumption) (by assumption)).mono ?_); rintro e wy ⟨z, hz, rfl, hb⟩; try have HS := hide (HS.out.call hb)) | (go_at_call 46; (with_reducible refine (negA _ (by assumption)).mono ?_); rintro e wy ⟨z, hz, rfl, hb⟩; try have HS := hide (HS.out.call hb)) | (go_at_call 32; (with_reducible refine (invA _ (by assumption)).mono ?_); rintro e wy ⟨z, hz, rfl, hb⟩; try have HS := hide (HS.out.call hb)) | (refine wl_loadP rfl rfl rfl HS.out (by (repeat first | exact .head _ | apply List.Mem.tail)) (by first | exact rowE | exact rowP | exact rowN | exact rowQ) (by (first | exact .q0 (EA.arr ‹_›) | exact .q1 (EA.arr ‹_›) (EA.arr ‹_›) | exact .q2 (EA.arr ‹_›) (EA.arr ‹_›) (EA.arr ‹_›) | exact .q3 (EA.arr ‹_›) (EA.arr ‹_›) (EA.arr ‹_›) (EA.arr ‹_›) | exact .q0 (NA.arr ‹_›) | exact .q1 (NA.arr ‹_›) (NA.arr ‹_›) | exact .q2 (NA.arr ‹_›) (NA.arr ‹_›) (NA.arr ‹_›) | exact .q3 (NA.arr ‹_›) (NA.arr ‹_›) (NA.arr ‹_›) (NA.arr ‹_›) | exact .all (by (first | exact EA.arr ‹_› | exact NA.arr ‹_› | exact arr_zE | exact arr_zN | exact arr_zP | exact arr_zQ | exact PtN.arr ‹_› | exact PtV.arr ‹_› | exact QtN.arr ‹_› | exact qE ‹_› ‹_› ‹_› ‹_› | exact qN ‹_› ‹_› ‹_› ‹_›)))) ?_; (try simp only [Act.put, nq1, nq2, nq3, nq4, nq5, nq6])) | (refine wl_storeR rfl rfl rfl rfl HS.out (by first | exact rowE | exact rowP | exact rowN | exact rowQ) (by (repeat first | exact .head | apply Upd.tail)) (by (first | exact EA.arr ‹_› | exact NA.arr ‹_› | exact arr_zE | exact arr_zN | exact arr_zP | exact arr_zQ | exact PtN.arr ‹_› | exact PtV.arr ‹_› | exact QtN.arr ‹_› | exact qE ‹_› ‹_› ‹_› ‹_› | exact qN ‹_› ‹_› ‹_› ‹_›)) (by (first | exact EA.arr ‹_› | exact NA.arr ‹_› | exact arr_zE | exact arr_zN | exact arr_zP | exact arr_zQ | exact PtN.arr ‹_› | exact PtV.arr ‹_› | exact QtN.arr ‹_› | exact qE ‹_› ‹_› ‹_› ‹_› | exact qN ‹_› ‹_› ‹_› ‹_›)) ?_; intro wz hS9; have HS := hide hS9; clear hS9; (try simp only [Act.put, nq1, nq2, nq3, nq4, nq5, nq6])) | (refine wl_allocR rfl rfl HS.out (by first | exact newE | exact newP | exact newN | exact newQ) ?_; intro gz wz hS9; have HS := hide hS9; clear hS9; (try simp only [Act.put, nq1, nq2, nq3, nq4, nq5, nq6])) | (refine wl_boxR rfl rfl rfl HS.out ?_; intro gz wz hS9; have HS := hide hS9; clear hS9; (try simp only [Act.put, nq1, nq2, nq3, nq4, nq5, nq6])) | (refine wpT_loadP rfl rfl rfl rfl HS.out (by (repeat first | exact .head _ | apply List.Mem.tail)) (by first | exact rowE | exact rowP | exact rowN | exact rowQ) (by (first | exact .q0 (EA.arr ‹_›) | exact .q1 (EA.arr ‹_›) (EA.arr ‹_›) | exact .q2 (EA.arr ‹_›) (EA.arr ‹_›) (EA.arr ‹_›) | exact .q3 (EA.arr ‹_›) (EA.arr ‹_›) (EA.arr ‹_›) (EA.arr ‹_›) | exact .q0 (NA.arr ‹_›) | exact .q1 (NA.arr ‹_›) (NA.arr ‹_›) | exact .q2 (NA.arr ‹_›) (NA.arr ‹_›) (NA.arr ‹_›) | exact .q3 (NA.arr ‹_›) (NA.arr ‹_›) (NA.arr ‹_›) (NA.arr ‹_›) | exact .all (by (first | exact EA.arr ‹_› | exact NA.arr ‹_› | exact arr_zE | exact arr_zN | exact arr_zP | exact arr_zQ | exact PtN.arr ‹_› | exact PtV.arr ‹_› | exact QtN.arr ‹_› | exact qE ‹_› ‹_› ‹_› ‹_› | exact qN ‹_› ‹_› ‹_› ‹_›)))) ?_; (try simp only [Act.put, nq1, nq2, nq3, nq4, nq5, nq6])) | (refine wpT_pure rfl rfl (fun x => run_build4 rfl rfl rfl rfl rfl buildP (exE (by assumption)) (exE (by assumption)) (exE (by assumption)) (exE (by assumption)) x) ?_; (try simp only [Act.put, nq1, nq2, nq3, nq4, nq5, nq6])) | (refine wpT_pure rfl rfl (fun x => run_build4 rfl rfl rfl rfl rfl buildQ (exN (by assumption)) (exN (by assumption)) (exN (by assumption)) (exN (by assumption)) x) ?_; (try simp only [Act.put, nq1, nq2, nq3, nq4, nq5, nq6])) | (refine wpT_late rfl rfl ?_; intro K hK; refine wp_storeR rfl rfl rfl HS.out (by first | exact rowE | exact rowP | exact rowN | exact rowQ) (by (repeat first | exact .head | apply Upd.tail)) (by (first | exact EA.arr ‹_› | exact NA.arr ‹_› | exact arr_zE | exact arr_zN | exact arr_zP | exact arr_zQ | exact PtN.arr ‹_› | exact PtV.arr ‹_› | exact QtN.arr ‹_› | exact qE ‹_› ‹_› ‹_› ‹_› | exact qN ‹_› ‹_› ‹_› ‹_›)) (by (first | exact EA.arr ‹_› | exact NA.arr ‹_› | exact arr_zE | exact arr_zN | exact arr_zP | exact arr_zQ | exact PtN.arr ‹_› | exact PtV.arr ‹_› | exact QtN.arr ‹_› | exact qE ‹_› ‹_› ‹_› ‹_› | exact qN ‹_› ‹_› ‹_› ‹_›)) ?_; intro wz hS9; have HS := hide hS9; clear hS9) | (refine wpT_any rfl rfl ?_; intro K hK; refine wp_storeR rfl rfl rfl HS.out (by first | exact rowE | exact rowP | exact rowN | exact rowQ) (by (repeat first | exact .head | apply Upd.tail)) (by (first | exact EA.arr ‹_› | exact NA.arr ‹_› | exact arr_zE | exact arr_zN | exact arr_zP | exact arr_zQ | exact PtN.arr ‹_› | exact PtV.arr ‹_› | exact QtN.arr ‹_› | exact qE ‹_› ‹_› ‹_› ‹_› | exact qN ‹_› ‹_› ‹_› ‹_›)) (by (first | exact EA.arr ‹_› | exact NA.arr ‹_› | exact arr_zE | exact arr_zN | exact arr_zP | exact arr_zQ | exact PtN.arr ‹_› | exact PtV.arr ‹_› | exact QtN.arr ‹_› | exact qE ‹_› ‹_› ‹_› ‹_› | exact qN ‹_› ‹_› ‹_› ‹_›)) ?_; intro wz hS9; have HS := hide hS9; clear hS9) | (refine wpX_loadP rfl rfl rfl rfl HS.out (by (repeat first | exact .head _ | apply List.Mem.tail)) (by first | exact rowE | exact rowP | exact rowN | exact rowQ) (by (first | exact .q0 (EA.arr ‹_›) | exact .q1 (EA.arr ‹_›) (EA.arr ‹_›) | exact .q2 (EA.arr ‹_›) (EA.arr ‹_›) (EA.arr ‹_›) | exact .q3 (EA.arr ‹_›) (EA.arr ‹_›) (EA.arr ‹_›) (EA.arr ‹_›) | exact .q0 (NA.arr ‹_›) | exact .q1 (NA.arr ‹_›) (NA.arr ‹_›) | exact .q2 (NA.arr ‹_›) (NA.arr ‹_›) (NA.arr ‹_›) | exact .q3 (NA.arr ‹_›) (NA.arr ‹_›) (NA.arr ‹_›) (NA.arr ‹_›) | exact .all (by (first | exact EA.arr ‹_› | exact NA.arr ‹_› | exact arr_zE | exact arr_zN | exact arr_zP | exact arr_zQ | exact PtN.arr ‹_› | exact PtV.arr ‹_› | exact QtN.arr ‹_› | exact qE ‹_› ‹_› ‹_› ‹_› | exact qN ‹_› ‹_› ‹_› ‹_›)))) ?_; (try simp only [Act.put, nq1, nq2, nq3, nq4, nq5, nq6])) | (refine wpX_pure rfl rfl (fun x => run_build4 rfl rfl rfl rfl rfl buildP (exE (by assumption)) (exE (by assumption)) (exE (by assumption)) (exE (by assumption)) x) ?_; (try simp only [Act.put, nq1, nq2, nq3, nq4, nq5, nq6])) | (refine wpX_pure rfl rfl (fun x => run_build4 rfl rfl rfl rfl rfl buildQ (exN (by assumption)) (exN (by assumption)) (exN (by assumption)) (exN (by assumption)) x) ?_; (try simp only [Act.put, nq1, nq2, nq3, nq4, nq5, nq6])) | (refine wpX_nil ?_; intro G xz hx0 hx hF; have hS9 := HS.out.floats hx0 hF _ (by decide) (fun _ h => h); simp only [List.map_cons, List.map_nil, List.cons_append, List.nil_append] at hS9; have HS := hide hS9; clear hS9 hF hx0 hx; simp only [putsE, List.foldl_cons, List.foldl_nil]; (try simp only [Act.put, nq1, nq2, nq3, nq4, nq5, nq6])) | (refine wpX_pure (v := ?_) rfl rfl ?_ ?_; rotate_left; (intro wx; go_simp; try go_bits) <;> (with_reducible rfl); (try simp only [Act.put, nq1, nq2, nq3, nq4, nq5, nq6])) | (refine wpX_call rfl rfl ?_; intro xc hxc K hK) | (refine wpX_skip rfl rfl ?_; (try simp only [Act.put, nq1, nq2, nq3, nq4, nq5, nq6])) | (refine wpT_nil ?_)   | ((with_reducible refine fromT_refl ?_); (try simp only [Act.put, nq1, nq2, nq3, nq4, nq5, nq6]))   | ((with_reducible refine fromT_mk (by assumption) ?_); (try simp only [Act.put, nq1, nq2, nq3, nq4, nq5, nq6]))   | (refine wpT_pure (v := ?_) rfl rfl ?_ ?_; rotate_left; (intro wx; go_simp; try go_bits) <;> (with_reducible rfl); (try simp only [Act.put, nq1, nq2, nq3, nq4, nq5, nq6]))   | (refine wpT_load (v := ?_) rfl rfl rfl ?_ ?_; rotate_left; (go_simp; try go_bits) <;> (with_reducible rfl); (try simp only [Act.put, nq1, nq2, nq3, nq4, nq5, nq6]))   | (refine wpT_read (v := ?_) rfl rfl ?_ ?_; rotate_left; (intro wx hx; go_simp; try go_bits) <;> (with_reducible rfl); (try simp only [Act.put, nq1, nq2, nq3, nq4, nq5, nq6]))   | (refine wpT_call rfl rfl ?_; intro K hK)   | (refine wpT_late rfl rfl ?_; intro K hK)   | (refine wpT_any rfl rfl ?_; intro K hK)   | (refine wpT_skip rfl rfl ?_; (try simp only [Act.put, nq1, nq2, nq3, nq4, nq5, nq6])))
  refine bodyPost_ret (results_cell_row rfl _ _ _ _ _ _ _ rfl (HS.out.heapM (by (repeat first | exact .head _ | apply List.Mem.tail))) Tryd.underlying36 rfl (by first | (rw [(EA.arr ‹_›).size]; kernel_rfl) | (rw [(NA.arr ‹_›).size]; kernel_rfl) | (rw [(qE ‹_› ‹_› ‹_› ‹_›).size]; kernel_rfl) | (rw [(qN ‹_› ‹_› ‹_› ‹_›).size]; kernel_rfl) | (rw [(PtN.arr ‹_›).size]; kernel_rfl) | (rw [(PtV.arr ‹_›).size]; kernel_rfl) | (rw [(QtN.arr ‹_›).size]; kernel_rfl))) rfl ?_
  exact ⟨_, _, _, _, hea, heb, by assumption, by assumption, rfl, HS.out.below⟩
end Go.Proofs.YtkelegjppnfoaaaDoor

/-
  Plain mathematics: a point's 32 bytes; the point of bytes, as the code and as the page find it. No program is named here.
-/
namespace Go.Proofs.YtkelegjppnfoaaaDoor
open Go.RowKit

/-- A point's bytes. -/
def packL (P : Ed) : List UInt8 := leB 32 (packN P)
theorem packL_len (P : Ed) : (packL P).length = 32 := leB_len 32 _
theorem packN_lt (P : Ed) : packN P < 256 ^ 32 := by
  unfold packN
  have h1 : P.y.val < Pq := P.y.isLt
  have h2 := pq_255
  have h3 : (256 : Nat) ^ 32 = 2 ^ 255 + 2 ^ 255 := by decide
  rw [h3]
  generalize (2 : Nat) ^ 255 = B at *
  split <;> omega
theorem packL_inj {P Q : Ed} (h : packL P = packL Q) : P = Q := packN_inj (leB_inj (packN_lt P) (packN_lt Q) h)
/-- The highest byte of a number of 255 bits, and with a bit more. -/
theorem top_bit (y : Nat) (hy : y < 2 ^ 255) : ∃ (l : List UInt8) (r : Nat), l.length = 31 ∧ r < 128 ∧ leB 32 y = l ++ [UInt8.ofNat r] ∧ leB 32 (y + 2 ^ 255) = l ++ [UInt8.ofNat (r + 128)] := by
  obtain ⟨x, hx⟩ : ∃ x, x = y % 256 ^ 31 := ⟨_, rfl⟩
  obtain ⟨r, hr⟩ : ∃ r, r = y / 256 ^ 31 := ⟨_, rfl⟩
  have hB : (2 : Nat) ^ 255 = 256 ^ 31 * 128 := by decide
  have hx2 : x < 256 ^ 31 := by rw [hx]; exact Nat.mod_lt _ (by decide)
  have e : y = x + 256 ^ 31 * r := by rw [hx, hr, Nat.mod_add_div]
  have hr2 : r < 128 := by
    rw [hr]
    refine Nat.div_lt_of_lt_mul ?_
    rw [← hB]
    exact hy
  refine ⟨leB 31 x, r, leB_len 31 x, hr2, ?_, ?_⟩
  · rw [e]
    have h := leB_add 31 1 x r hx2
    rw [show (31 + 1 : Nat) = 32 from rfl] at h
    rw [h]
    show _ ++ [UInt8.ofNat (r % 256)] = _
    rw [Nat.mod_eq_of_lt (by omega)]
  · rw [e, hB, Nat.add_assoc, ← Nat.mul_add]
    have h := leB_add 31 1 x (r + 128) hx2
    rw [show (31 + 1 : Nat) = 32 from rfl] at h
    rw [h]
    show _ ++ [UInt8.ofNat ((r + 128) % 256)] = _
    rw [Nat.mod_eq_of_lt (by omega)]
/-- Bytes without their highest bit; is that bit set? -/
def lowL (b : List UInt8) : List UInt8 := b.set 31 (UInt8.ofNat ((b.getD 31 0).toNat % 128))
def topB (b : List UInt8) : Bool := decide (128 ≤ (b.getD 31 0).toNat)
theorem lowL_len (b : List UInt8) : (lowL b).length = b.length := by unfold lowL; rw [List.length_set]
theorem bval_low {b : List UInt8} (h : b.length = 32) : bval b = bval (lowL b) + (if topB b then 2 ^ 255 else 0) ∧ bval (lowL b) < 2 ^ 255 := by
  obtain ⟨c, hc⟩ : ∃ c, b[31]? = some c := ⟨b[31], List.getElem?_eq_getElem _⟩
  have hg : b.getD 31 0 = c := by rw [List.getD_eq_getElem?_getD, hc]; rfl
  have hlow : (lowL b)[31]? = some (UInt8.ofNat (c.toNat % 128)) := by unfold lowL; rw [hg, List.getElem?_set_self (by omega)]
  have e1 := bval_take hc
  have e2 := bval_take hlow
  have t1 : b.take (31 + 1) = b := List.take_of_length_le (by omega)
  have t2 : (lowL b).take (31 + 1) = lowL b := List.take_of_length_le (by rw [lowL_len]; omega)
  have t3 : (lowL b).take 31 = b.take 31 := by unfold lowL; rw [List.take_set_of_le (Nat.le_refl 31)]
  rw [t1] at e1
  rw [t2, t3] at e2
  have hb := bval_lt (b.take 31)
  rw [List.length_take, Nat.min_eq_left (by omega)] at hb
  have hm : (UInt8.ofNat (c.toNat % 128)).toNat = c.toNat % 128 := by rw [UInt8.toNat_ofNat', Nat.mod_eq_of_lt (by omega)]
  rw [hm] at e2
  have hB : (2 : Nat) ^ 255 = 256 ^ 31 * 128 := by decide
  have hc2 : c.toNat < 256 := UInt8.toNat_lt c
  have hd := Nat.div_add_mod c.toNat 128
  unfold topB
  rw [hg, e1, e2, hB]
  generalize (256 : Nat) ^ 31 = W at *
  generalize bval (b.take 31) = V at *
  by_cases ht : 128 ≤ c.toNat
  · rw [decide_eq_true ht, if_pos rfl]
    have h1 : c.toNat = c.toNat % 128 + 128 := by omega
    refine ⟨?_, ?_⟩
    · conv => lhs; rw [h1]
      rw [Nat.add_mul, Nat.mul_comm 128 W]
      omega
    · have : c.toNat % 128 ≤ 127 := by omega
      have := Nat.mul_le_mul_right W this
      omega
  · rw [decide_eq_false ht, if_neg Bool.false_ne_true]
    have h1 : c.toNat % 128 = c.toNat := by omega
    rw [h1]
    refine ⟨by omega, ?_⟩
    have : c.toNat ≤ 127 := by omega
    have := Nat.mul_le_mul_right W this
    omega
theorem fbytes_low {b : List UInt8} (h : b.length = 32) : (fbytes (lowL b)).val = bval (lowL b) % Pq := by
  show bval (fullL (lowL b)) % Pq = _
  unfold fullL
  rw [List.take_append_of_le_length (by rw [lowL_len]; omega), List.take_of_length_le (by rw [lowL_len]; omega)]
/-- The point of bytes, as the code finds it. -/
noncomputable def fromL (b : List UInt8) : Option Ed :=
  if b.length = 32 then match unp (fbytes (lowL b)) (topB b) with
    | none => none
    | some P => if packL P = b then some P else none
  else none
/-- The same as the page has it. -/
noncomputable def pageL (b : List UInt8) : Option Ed :=
  if b.length = 32 then if leB 32 (fbytes (lowL b)).val = lowL b then match unp (fbytes (lowL b)) (topB b) with
    | none => none
    | some P => if topB b = true ∧ P.x = 0 then none else some P
  else none else none
theorem from_page (b : List UInt8) : fromL b = pageL b := by
  unfold fromL pageL
  by_cases h : b.length = 32
  · rw [if_pos h, if_pos h]
    obtain ⟨e1, e2⟩ := bval_low h
    have hy := fbytes_low h
    have hyl : (fbytes (lowL b)).val < Pq := (fbytes (lowL b)).isLt
    have hp := pq_255
    have hcan : leB 32 (fbytes (lowL b)).val = lowL b ↔ (fbytes (lowL b)).val = bval (lowL b) := by
      constructor
      · intro h1
        have := congrArg bval h1
        rw [bval_leB, Nat.mod_eq_of_lt (Nat.lt_trans (Nat.lt_trans hyl hp) (by decide))] at this
        exact this
      · intro h1
        rw [h1]
        have := leB_bval (lowL b)
        rw [lowL_len, h] at this
        exact this
    cases hu : unp (fbytes (lowL b)) (topB b) with
    | none =>
      show none = if leB 32 (fbytes (lowL b)).val = lowL b then none else none
      rw [ite_self]
    | some P =>
      obtain ⟨hPy, hPx⟩ := unp_ok hu
      have hpack : packL P = b ↔ packN P = bval b := by
        constructor
        · intro h1
          have := congrArg bval h1
          unfold packL at this
          rw [bval_leB, Nat.mod_eq_of_lt (packN_lt P)] at this
          exact this
        · intro h1
          unfold packL
          rw [h1]
          have := leB_bval b
          rw [h] at this
          exact this
      have hN : packN P = (fbytes (lowL b)).val + (if P.x.val % 2 = 1 then 2 ^ 255 else 0) := by unfold packN; rw [hPy]
      have key : packL P = b ↔ (leB 32 (fbytes (lowL b)).val = lowL b ∧ ¬ (topB b = true ∧ P.x = 0)) := by
        rw [hpack, hcan, hN, e1]
        generalize (fbytes (lowL b)).val = y at *
        generalize bval (lowL b) = L at *
        generalize (2 : Nat) ^ 255 = B at *
        rcases hPx with h0 | h0
        · have hv : P.x.val % 2 = 0 := by rw [h0, fzero_val]
          rw [if_neg (by omega)]
          cases topB b with
          | true => simp [h0]; omega
          | false => simp
        · rw [← h0]
          by_cases ho : P.x.val % 2 = 1
          · have hne : P.x ≠ 0 := fun e => by rw [e, fzero_val] at ho; omega
            simp [ho, hne]
          · simp [ho]
      show (if packL P = b then some P else none) = _
      by_cases hk : packL P = b
      · obtain ⟨k1, k2⟩ := key.1 hk
        rw [if_pos hk, if_pos k1]
        show _ = if topB b = true ∧ P.x = 0 then none else some P
        rw [if_neg k2]
      · rw [if_neg hk]
        by_cases k1 : leB 32 (fbytes (lowL b)).val = lowL b
        · rw [if_pos k1]
          show _ = if topB b = true ∧ P.x = 0 then none else some P
          have k2 : topB b = true ∧ P.x = 0 := Classical.byContradiction fun k2 => hk (key.2 ⟨k1, k2⟩)
          rw [if_pos k2]
        · rw [if_neg k1]
  · rw [if_neg h, if_neg h]
/-- A point's bytes are read as it. -/
theorem from_pack (P : Ed) : fromL (packL P) = some P := by
  have hl := packL_len P
  have h1 : P.y.val < Pq := P.y.isLt
  have hp := pq_255
  obtain ⟨e1, e2⟩ := bval_low hl
  have hb : bval (packL P) = packN P := by unfold packL; rw [bval_leB, Nat.mod_eq_of_lt (packN_lt P)]
  have hsp : bval (lowL (packL P)) = P.y.val ∧ topB (packL P) = decide (P.x.val % 2 = 1) := by
    rw [hb] at e1
    unfold packN at e1
    generalize bval (lowL (packL P)) = L at *
    generalize (2 : Nat) ^ 255 = B at *
    cases ht : topB (packL P) with
    | true =>
      rw [ht, if_pos rfl] at e1
      split at e1
      · rename_i h; exact ⟨by omega, (decide_eq_true h).symm⟩
      · omega
    | false =>
      rw [ht, if_neg Bool.false_ne_true] at e1
      split at e1
      · omega
      · rename_i h; exact ⟨by omega, (decide_eq_false h).symm⟩
  have hy : fbytes (lowL (packL P)) = P.y := Fin.ext (by rw [fbytes_low hl, hsp.1, Nat.mod_eq_of_lt h1])
  unfold fromL
  rw [if_pos hl, hy, hsp.2, unp_pack]
  show (if packL P = packL P then some P else none) = _
  rw [if_pos rfl]
end Go.Proofs.YtkelegjppnfoaaaDoor
