/-
 Joined of texts of mine, in build order: Fl, Bd, Na, Nb, Nc, Nd, Ne, Nf, Ng, Nh, Be, Bf, Bk, Bm, Bg. Each says what it proves at its own head.
-/
import Derived.Test.YtnohmgpmmhlloaaGreatDoorPc
set_option linter.unusedSimpArgs false
set_option linter.unusedVariables false
set_option maxRecDepth 100000
set_option maxHeartbeats 25600000

namespace Go.Proofs.YtnohmgpmmhlloaaGreatDoor
open Go.RowKit

section
variable {P : Program} {ops : Array Oper} {Q : Exit → Act → World → Prop} {md : Region.Mode} {lt : Nat → Bool}

def dstOf (ops : Array Oper) (i : Nat) : Option Tmp := (ops[i]?).bind (·.dst)
def putsG (ops : Array Oper) (G : Nat → Nat) (ds : List Nat) (a : Act) : Act := ds.foldl (fun a i => a.put (dstOf ops i) (.pointer (some ⟨G i, 0, none⟩))) a
theorem putsG_cons (G : Nat → Nat) (i : Nat) (ds : List Nat) (a : Act) : putsG ops G (i :: ds) a = putsG ops G ds (a.put (dstOf ops i) (.pointer (some ⟨G i, 0, none⟩))) := rfl
theorem putsG_congr {G G' : Nat → Nat} : ∀ {ds : List Nat} {a : Act}, (∀ i ∈ ds, G i = G' i) → putsG ops G ds a = putsG ops G' ds a
 | [], _, _ => rfl
 | i :: ds, a, h => by
  rw [putsG_cons, putsG_cons, h i (List.mem_cons_self ..)]
  exact putsG_congr fun j hj => h j (List.mem_cons_of_mem _ hj)
theorem putsG_put (G : Nat → Nat) (t : Option Tmp) (v : Value) : ∀ (ds : List Nat) (a : Act), (∀ i ∈ ds, ∀ d, dstOf ops i = some d → t ≠ some d) → (putsG ops G ds a).put t v = putsG ops G ds (a.put t v)
 | [], _, _ => rfl
 | i :: ds, a, h => by
  rw [putsG_cons, putsG_cons, putsG_put G t v ds _ fun j hj => h j (List.mem_cons_of_mem _ hj)]
  rw [Act.put_comm a _ v (h i (List.mem_cons_self ..))]
def setAll (l : Array Bool) (ds : List Nat) : Array Bool := ds.foldl (fun l i => l.setIfInBounds i true) l
theorem setAll_cons (l : Array Bool) (i : Nat) (ds : List Nat) : setAll l (i :: ds) = setAll (l.setIfInBounds i true) ds := rfl
theorem set_comm (l : Array Bool) (i j : Nat) : (l.setIfInBounds i true).setIfInBounds j true = (l.setIfInBounds j true).setIfInBounds i true := by
 by_cases h : i = j
 ·rw [h]
 ·rw [Array.setIfInBounds_comm _ _ h]
theorem setAll_set (i : Nat) : ∀ (ds : List Nat) (l : Array Bool), (setAll l ds).setIfInBounds i true = setAll (l.setIfInBounds i true) ds
 | [], _ => rfl
 | j :: ds, l => by rw [setAll_cons, setAll_cons, setAll_set i ds, set_comm]
theorem set_getD (l : Array Bool) (i j : Nat) (d : Bool) : (l.setIfInBounds i true).getD j d = if i = j ∧ j < l.size then true else l.getD j d := by
 simp only [Array.getD_eq_getD_getElem?, Array.getElem?_setIfInBounds]
 by_cases h : i = j
 ·subst h
  by_cases h2 : i < l.size
  ·simp [h2]
  ·simp [h2]
 ·simp [h]
theorem setAll_getD (d : Bool) (j : Nat) : ∀ (ds : List Nat) (l : Array Bool), (setAll l ds).getD j d = if j ∈ ds ∧ j < l.size then true else l.getD j d
 | [], l => by simp [setAll]
 | i :: ds, l => by
  rw [setAll_cons, setAll_getD d j ds, set_getD, Array.size_setIfInBounds]
  by_cases h1 : j ∈ ds ∧ j < l.size
  ·rw [if_pos h1, if_pos ⟨List.mem_cons_of_mem _ h1.1, h1.2⟩]
  ·rw [if_neg h1]
   by_cases h2 : i = j ∧ j < l.size
   ·rw [if_pos h2, if_pos ⟨by rw [h2.1]; exact List.mem_cons_self .., h2.2⟩]
   ·rw [if_neg h2, if_neg fun h => ?_]
    rcases List.mem_cons.1 h.1 with e | e
    ·exact h2 ⟨e.symm, h.2⟩
    ·exact h1 ⟨e, h.2⟩

theorem wp_put1 {o : Oper} {a : Act} {d : Option Tmp} {v : Value} {x : World} {K : Act → World → Prop} (hs : ∀ cs b, o.op ≠ .select cs b) (h1 : ∀ t, d = some t → t ∉ o.looksAt ops) (h2 : ∀ t, d = some t → o.dst ≠ some t)
  (hQ : ∀ c (a : Act) (t : Array Value) w, Q (.panic c) { a with tmps := t } w → Q (.panic c) a w) (h : o.wp P a x K Q) : o.wp P (a.put d v) x (fun a'' w' => ∃ a', a'' = a'.put d v ∧ K a' w') Q := by
 have hp : ∀ c w, Q (.panic c) a w → Q (.panic c) (a.put d v) w := fun c w h => by
  refine hQ c _ a.tmps w ?_
  cases d with
  | none => exact h
  | some d => exact h
 unfold Oper.wp at *
 rw [execOp_put o hs a d v h1]
 generalize (execOp a.eval o).run P x = r at *
 cases r with
 | ok n w' =>
  cases n <;> simp only [Oper.upon] at h ⊢
  case value u => exact ⟨_, Act.put_comm a v u h2, h⟩
  case skip => exact ⟨_, Act.put_comm a v undef h2, h⟩
  case defer e => exact ⟨_, by rw [Act.put_defers, Act.put_comm _ v undef h2], h⟩
  case enter f args =>
   refine Calls.mono h fun e w'' he => ?_
   cases e with
   | returned u => exact ⟨_, Act.put_comm a v u h2, he⟩
   | panicked c => exact hp _ _ he
   | outgrown => exact he
  case row row args => exact Rows.mono h fun u w'' he => ⟨_, Act.put_comm a v u h2, he⟩
 | halt z w' =>
  cases z <;> simp only [Oper.upon] at h ⊢
  case panic u => exact hp _ _ h
def apF (ops : Array Oper) (F : List Nat) (o : Oper) : Bool := F.all fun f => match dstOf ops f with
 | none => true
 | some d => !(o.looksAt ops).contains d && o.dst != some d
theorem apF_spec {F : List Nat} {o : Oper} (h : apF ops F o = true) : ∀ f ∈ F, ∀ t, dstOf ops f = some t → t ∉ o.looksAt ops ∧ o.dst ≠ some t := fun f hf t ht => by
 have := List.all_eq_true.1 h f hf
 rw [ht] at this
 simpa using this
theorem wp_puts {o : Oper} {x : World} (G : Nat → Nat) (hs : ∀ cs b, o.op ≠ .select cs b) (hQ : ∀ c (a : Act) (t : Array Value) w, Q (.panic c) { a with tmps := t } w → Q (.panic c) a w) :
  ∀ (ds : List Nat) (a : Act) (K : Act → World → Prop), (∀ f ∈ ds, ∀ t, dstOf ops f = some t → t ∉ o.looksAt ops ∧ o.dst ≠ some t) → o.wp P a x K Q → o.wp P (putsG ops G ds a) x (fun a'' w' => ∃ a', a'' = putsG ops G ds a' ∧ K a' w') Q
 | [], a, K, _, h => Oper.wp_mono (fun a' w' h' => ⟨a', rfl, h'⟩) h
 | i :: ds, a, K, hd, h => by
  have h1 := wp_put1 (ops := ops) (v := .pointer (some ⟨G i, 0, none⟩)) hs (fun t ht => (hd i (List.mem_cons_self ..) t ht).1) (fun t ht => (hd i (List.mem_cons_self ..) t ht).2) hQ h
  exact Oper.wp_mono (fun a'' w' ⟨a1, e1, a', e2, h'⟩ => ⟨a', by rw [e1, e2]; rfl, h'⟩) (wp_puts G hs hQ ds _ _ (fun f hf => hd f (List.mem_cons_of_mem _ hf)) h1)
theorem wanted_puts {o : Oper} (G : Nat → Nat) : ∀ (ds : List Nat) (a : Act), (∀ f ∈ ds, ∀ t, dstOf ops f = some t → t ∉ o.looksAt ops ∧ o.dst ≠ some t) → Region.wanted o (yielded ops (putsG ops G ds a).tmps) = Region.wanted o (yielded ops a.tmps)
 | [], _, _ => rfl
 | i :: ds, a, h => by
  rw [putsG_cons, wanted_puts G ds _ fun f hf => h f (List.mem_cons_of_mem _ hf)]
  exact wanted_put o a _ _ fun t ht => (h i (List.mem_cons_self ..) t ht).1
theorem exec_puts {o : Oper} (G : Nat → Nat) (hs : ∀ cs b, o.op ≠ .select cs b) : ∀ (ds : List Nat) (a : Act), (∀ f ∈ ds, ∀ t, dstOf ops f = some t → t ∉ o.looksAt ops ∧ o.dst ≠ some t) → execOp (putsG ops G ds a).eval o = execOp a.eval o
 | [], _, _ => rfl
 | i :: ds, a, h => by
  rw [putsG_cons, exec_puts G hs ds _ fun f hf => h f (List.mem_cons_of_mem _ hf)]
  exact execOp_put o hs a _ _ fun t ht => (h i (List.mem_cons_self ..) t ht).1

structure FlAt (W0 : World) (F : List Nat) (cs : Array Value) (e : TypeId) (G : Nat → Nat) (x : World) : Prop where
 at_ : ∀ f ∈ F, W0.heap.size ≤ G f ∧ x.heap[G f]? = some (.cells cs e (0, 0))
 ne : ∀ f ∈ F, ∀ g ∈ F, f ≠ g → G f ≠ G g
def wpX (P : Program) (ops : Array Oper) (Q : Exit → Act → World → Prop) (W0 : World) (F : List Nat) (cs : Array Value) (e : TypeId) (suf : STr) : List (Nat × Nat) → Act → World → Prop
 | [], a, w => ∀ (G : Nat → Nat) (x : World), From W0 x → From w x → FlAt W0 F cs e G x → wpS P ops Q W0 suf (putsG ops G F a) x
 | (i, m) :: rest, a, w => ∃ o, ops[i]? = some o ∧
  if Region.wanted o (yielded ops a.tmps) = true then
   (match m with
    | 0 => ∃ v, (∀ x, From W0 x → (execOp a.eval o).run P x = .ok (.value v) x) ∧ wpX P ops Q W0 F cs e suf rest (a.put o.dst v) w
    | 1 => ∃ v, (∀ x, (execOp a.eval o).run P x = .ok (.value v) x) ∧ wpX P ops Q W0 F cs e suf rest (a.put o.dst v) w
    | _ => ∀ x, From w x → o.wp P a x (fun a' w' => FromT x w' (wpX P ops Q W0 F cs e suf rest a' w')) Q)
  else wpX P ops Q W0 F cs e suf rest (a.put o.dst undef) w
def schedX (md : Region.Mode) (ops : Array Oper) (lt : Nat → Bool) (F : List Nat) (suf : STr) : List (Nat × Nat) → Array Bool → Bool
 | [], lo => F.all (fun f => Region.ready md ops (setAll lo (F.filter (fun g => g != f))) == [f]) && schedS md ops lt true suf (setAll lo F)
 | (i, m) :: rest, lo => !F.contains i && !lt i && ((ops[i]?).map (apF ops F)).getD false && (match m with
   | 0 => (Region.ready md ops lo).contains i && Region.free md ops lo i && lateB md ops lt i
   | 1 => (Region.ready md ops lo).contains i && Region.free md ops lo i
   | _ => Region.ready md ops (setAll lo F) == [i]) && schedX md ops lt F suf rest (lo.setIfInBounds i true)
theorem ready_less {lo : Array Bool} {ds F : List Nat} {j : Nat} (hd : ∀ f ∈ ds, f ∈ F) (hj : j ∉ F) (h : j ∈ Region.ready md ops (setAll lo ds)) : j ∈ Region.ready md ops (setAll lo F) := by
 obtain ⟨h1, o, ho, h2⟩ := mem_ready.1 h
 refine mem_ready.2 ⟨?_, o, ho, fun e he hb => ?_⟩
 ·rw [setAll_getD] at h1 ⊢
  rw [if_neg fun h => hj h.1]
  split at h1
  ·cases h1
  ·exact h1
 ·have := h2 e he hb
  rw [setAll_getD] at this ⊢
  split at this
  ·rename_i h
   rw [if_pos ⟨hd _ h.1, h.2⟩]
  ·split
   ·rfl
   ·exact this
theorem ready_more {lo : Array Bool} {ds : List Nat} {j : Nat} (hj : j ∉ ds) (h : j ∈ Region.ready md ops lo) : j ∈ Region.ready md ops (setAll lo ds) := by
 obtain ⟨h1, o, ho, h2⟩ := mem_ready.1 h
 refine mem_ready.2 ⟨?_, o, ho, fun e he hb => ?_⟩
 ·rw [setAll_getD, if_neg fun h => hj h.1]
  exact h1
 ·rw [setAll_getD]
  split
  ·rfl
  ·exact h2 e he hb
def leftF (F : List Nat) (D : Nat → Bool) : Nat := (F.filter (fun f => !D f)).length
def addD (D : Nat → Bool) (f : Nat) : Nat → Bool := fun g => D g || g == f
theorem filter_add {D : Nat → Bool} {f : Nat} : ∀ {F : List Nat}, f ∉ F → F.filter (addD D f) = F.filter D
 | [], _ => rfl
 | g :: F, h => by
  have hg : (g == f) = false := by rw [beq_eq_false_iff_ne]; exact fun e => h (by rw [e]; exact List.mem_cons_self ..)
  rw [List.filter_cons, List.filter_cons, filter_add fun h' => h (List.mem_cons_of_mem _ h')]
  unfold addD
  rw [hg, Bool.or_false]
theorem puts_add (G : Nat → Nat) {D : Nat → Bool} {f : Nat} (hD : D f = false) : ∀ {F : List Nat} {a : Act}, F.Nodup → f ∈ F → (∀ g ∈ F, ∀ h ∈ F, g ≠ h → ∀ d, dstOf ops g = some d → dstOf ops h ≠ some d) →
  putsG ops G (F.filter (addD D f)) a = (putsG ops G (F.filter D) a).put (dstOf ops f) (.pointer (some ⟨G f, 0, none⟩))
 | [], _, _, hf, _ => by cases hf
 | g :: F, a, hn, hf, hd => by
  obtain ⟨hg, hn'⟩ := List.nodup_cons.1 hn
  by_cases e : g = f
  ·subst e
   have h1 : addD D g g = true := by unfold addD; simp
   rw [List.filter_cons, if_pos h1, filter_add hg, List.filter_cons, if_neg (by rw [hD]; exact Bool.false_ne_true), putsG_cons]
   exact (putsG_put G _ _ _ a fun i hi d h' => hd i (List.mem_cons_of_mem _ ((List.mem_filter.1 hi).1)) g (List.mem_cons_self ..) (fun e => hg (e ▸ (List.mem_filter.1 hi).1)) d h').symm
  ·have hf' : f ∈ F := by
    rcases List.mem_cons.1 hf with h | h
    ·exact absurd h.symm e
    ·exact h
   have h1 : addD D f g = D g := by unfold addD; rw [beq_eq_false_iff_ne.2 e, Bool.or_false]
   rw [List.filter_cons, List.filter_cons, h1]
   have ih := fun a => puts_add G hD (F := F) (a := a) hn' hf' fun i hi j hj => hd i (List.mem_cons_of_mem _ hi) j (List.mem_cons_of_mem _ hj)
   split
   ·rw [putsG_cons, putsG_cons]
    exact ih _
   ·exact ih _
theorem set_add {D : Nat → Bool} {f : Nat} (hD : D f = false) : ∀ {F : List Nat} {l : Array Bool}, F.Nodup → f ∈ F → setAll l (F.filter (addD D f)) = (setAll l (F.filter D)).setIfInBounds f true
 | [], _, _, hf => by cases hf
 | g :: F, l, hn, hf => by
  obtain ⟨hg, hn'⟩ := List.nodup_cons.1 hn
  by_cases e : g = f
  ·subst e
   have h1 : addD D g g = true := by unfold addD; simp
   rw [List.filter_cons, if_pos h1, filter_add hg, List.filter_cons, if_neg (by rw [hD]; exact Bool.false_ne_true), setAll_cons, setAll_set]
  ·have hf' : f ∈ F := by
    rcases List.mem_cons.1 hf with h | h
    ·exact absurd h.symm e
    ·exact h
   have h1 : addD D f g = D g := by unfold addD; rw [beq_eq_false_iff_ne.2 e, Bool.or_false]
   rw [List.filter_cons, List.filter_cons, h1]
   split
   ·rw [setAll_cons, setAll_cons]
    exact set_add hD hn' hf'
   ·exact set_add hD hn' hf'
theorem left_add {D : Nat → Bool} {f : Nat} (hD : D f = false) : ∀ {F : List Nat}, F.Nodup → f ∈ F → leftF F (addD D f) + 1 = leftF F D
 | [], _, hf => by cases hf
 | g :: F, hn, hf => by
  obtain ⟨hg, hn'⟩ := List.nodup_cons.1 hn
  unfold leftF
  by_cases e : g = f
  ·subst e
   have h1 : addD D g g = true := by unfold addD; simp
   have h2 : F.filter (fun f => !addD D g f) = F.filter (fun f => !D f) := List.filter_congr fun x hx => by
    have : (x == g) = false := by rw [beq_eq_false_iff_ne]; exact fun e => hg (e ▸ hx)
    unfold addD
    rw [this, Bool.or_false]
   rw [List.filter_cons, List.filter_cons, h1, hD, h2]
   rfl
  ·have hf' : f ∈ F := by
    rcases List.mem_cons.1 hf with h | h
    ·exact absurd h.symm e
    ·exact h
   have h1 : addD D f g = D g := by unfold addD; rw [beq_eq_false_iff_ne.2 e, Bool.or_false]
   have ih := left_add hD hn' hf'
   unfold leftF at ih
   rw [List.filter_cons, List.filter_cons, h1]
   split
   ·rw [List.length_cons, List.length_cons]; omega
   ·exact ih
theorem left_zero {D : Nat → Bool} {F : List Nat} (h : leftF F D = 0) : F.filter D = F := by
 refine List.filter_eq_self.2 fun f hf => ?_
 have h1 := List.filter_eq_nil_iff.1 (List.eq_nil_of_length_eq_zero h) f hf
 simpa using h1
theorem left_pos {D : Nat → Bool} {F : List Nat} (h : leftF F D ≠ 0) : ∃ f ∈ F, D f = false := by
 unfold leftF at h
 obtain ⟨f, hf⟩ := List.exists_mem_of_length_pos (Nat.pos_of_ne_zero h)
 obtain ⟨h1, h2⟩ := List.mem_filter.1 hf
 exact ⟨f, h1, by simpa using h2⟩
structure Floats (P : Program) (md : Region.Mode) (ops : Array Oper) (lt : Nat → Bool) (F : List Nat) (cs : Array Value) (e : TypeId) : Prop where
 op : ∀ f ∈ F, ∃ o, ops[f]? = some o ∧ o.guard = none ∧ (∀ e ∈ o.after, Region.binds md e = false) ∧ ∀ (ev : Operand → Value) (x : World), (execOp ev o).run P x = .ok (.value (.pointer (some ⟨x.heap.size, 0, none⟩))) (x.alloc (.cells cs e))
 early : ∀ f ∈ F, lt f = false
 nodup : F.Nodup
 dst : ∀ g ∈ F, ∀ h ∈ F, g ≠ h → ∀ d, dstOf ops g = some d → dstOf ops h ≠ some d
theorem wpM_of_X {W0 : World} {F : List Nat} {cs : Array Value} {e : TypeId} {suf : STr} (hF : Floats P md ops lt F cs e) (hs : Region.noSelect ops = true) (hQ : ∀ c (a : Act) (t : Array Value) w, Q (.panic c) { a with tmps := t } w → Q (.panic c) a w) :
  ∀ (n : Nat) (chain : List (Nat × Nat)) (D : Nat → Bool) (G : Nat → Nat) (lo : Array Bool) (a : Act) (w x : World) (fuel : Nat), chain.length + leftF F D = n → n + suf.len ≤ fuel → schedX md ops lt F suf chain lo = true →
   (∀ f ∈ F, lo.getD f true = false) → From W0 w → From w x → FlAt W0 (F.filter D) cs e G x → wpX P ops Q W0 F cs e suf chain a w → wpM P md ops Q lt fuel (From W0) (setAll lo (F.filter D)) (putsG ops G (F.filter D) a) x := by
 intro n
 induction n with
 | zero =>
  intro chain D G lo a w x fuel hn hfu hb hlo hW0 hx hG h
  obtain rfl : chain = [] := List.eq_nil_of_length_eq_zero (by omega)
  have hl := left_zero (F := F) (D := D) (by omega)
  rw [hl] at hG ⊢
  unfold schedX at hb
  rw [Bool.and_eq_true] at hb
  exact wpM_of_S hs hQ suf fuel _ _ _ (hW0.trans (hx.mono hW0.size)) (by omega) hb.2 (h G x (hW0.trans (hx.mono hW0.size)) hx hG)
 | succ n ih =>
  intro chain D G lo a w x fuel hn hfu hb hlo hW0 hx hG h
  obtain ⟨fuel, rfl⟩ : ∃ k, fuel = k + 1 := ⟨fuel - 1, by omega⟩
  have hsub : ∀ f ∈ F.filter D, f ∈ F := fun f hf => (List.mem_filter.1 hf).1
  have hout : ∀ {i}, F.contains i = false → i ∉ F.filter D := fun hi hm => by
   have := hsub _ hm
   simp at hi
   exact hi this
  -- a float that comes up
  have float : ∀ f ∈ F, f ∈ Region.ready md ops (setAll lo (F.filter D)) → wpOp P ops Q f (fun a' w' => (lt f = true ∧ wpAny P md ops Q fuel ((setAll lo (F.filter D)).setIfInBounds f true) a' w') ∨
    (lt f = false ∧ ∃ S' : World → Prop, (∀ y, S' y → From W0 y) ∧ S' w' ∧ wpM P md ops Q lt fuel S' ((setAll lo (F.filter D)).setIfInBounds f true) a' w')) (putsG ops G (F.filter D) a) x := by
   intro f hf hr
   have hDf : D f = false := by
    cases hD : D f with
    | false => rfl
    | true =>
     have h1 := (mem_ready.1 hr).1
     rw [setAll_getD] at h1
     split at h1
     ·cases h1
     ·rename_i h2
      exact absurd ⟨List.mem_filter.2 ⟨hf, hD⟩, Decidable.byContradiction fun hs => by
       rw [Array.getD_eq_getD_getElem?, Array.getElem?_eq_none (by omega)] at h1
       cases h1⟩ h2
   obtain ⟨o, ho, hg, _, hrun⟩ := hF.op f hf
   unfold wpOp
   simp only [ho]
   have hw : Region.wanted o (yielded ops (putsG ops G (F.filter D) a).tmps) = true := by unfold Region.wanted; rw [hg]
   rw [if_pos hw]
   refine .inl ?_
   unfold Oper.wp
   rw [hrun]
   refine .inr ⟨hF.early f hf, From W0, fun _ h => h, hW0.trans ((hx.trans (((Below.refl _ _).alloc (Nat.le_refl _) _).mono hx.size)).mono hW0.size), ?_⟩
   have hodst : o.dst = dstOf ops f := by unfold dstOf; rw [ho]; rfl
   have hxs : W0.heap.size ≤ x.heap.size := Nat.le_trans hW0.size hx.size
   have hGf : ∀ g ∈ F.filter D, (fun g => if g = f then x.heap.size else G g) g = G g := fun g hg => if_neg fun e => by
    have := (List.mem_filter.1 hg).2
    rw [e, hDf] at this
    cases this
   have e1 := puts_add (ops := ops) (a := a) (fun g => if g = f then x.heap.size else G g) hDf hF.nodup hf hF.dst
   rw [putsG_congr hGf, if_pos rfl] at e1
   have e2 := set_add (l := lo) hDf hF.nodup hf
   have e3 := left_add hDf hF.nodup hf
   have hsz : (x.alloc (.cells cs e)).heap.size = x.heap.size + 1 := by show (x.heap.push _).size = _; simp
   rw [hodst, ← e1, ← e2]
   refine ih chain (addD D f) _ lo a w _ fuel (by omega) (by omega) hb hlo hW0 (hx.trans (((Below.refl _ _).alloc (Nat.le_refl _) _).mono hx.size)) ⟨fun g hg => ?_, fun g hg g' hg' hne => ?_⟩ h
   ·by_cases egf : g = f
    ·subst egf
     rw [if_pos rfl]
     exact ⟨by omega, heap_alloc_new x _⟩
    ·rw [if_neg egf]
     have hg1 : g ∈ F.filter D := by
      obtain ⟨q1, q2⟩ := List.mem_filter.1 hg
      unfold addD at q2
      rw [beq_eq_false_iff_ne.2 egf, Bool.or_false] at q2
      exact List.mem_filter.2 ⟨q1, q2⟩
     obtain ⟨q1, q2⟩ := hG.at_ g hg1
     exact ⟨q1, (Below.block ((Below.refl x.heap.size x).alloc (Nat.le_refl _) (.cells cs e)) _ (Array.getElem?_eq_some_iff.1 q2).1).trans q2⟩
   ·have lt_of : ∀ z, z ∈ F.filter (addD D f) → z ≠ f → z ∈ F.filter D ∧ G z < x.heap.size := fun z hz hzf => by
     have hz1 : z ∈ F.filter D := by
      obtain ⟨q1, q2⟩ := List.mem_filter.1 hz
      unfold addD at q2
      rw [beq_eq_false_iff_ne.2 hzf, Bool.or_false] at q2
      exact List.mem_filter.2 ⟨q1, q2⟩
     exact ⟨hz1, (Array.getElem?_eq_some_iff.1 (hG.at_ z hz1).2).1⟩
    by_cases egf : g = f
    ·have := lt_of g' hg' fun e' => hne (egf.trans e'.symm)
     rw [if_pos egf, if_neg fun e' => hne (egf.trans e'.symm)]
     omega
    ·by_cases egf' : g' = f
     ·have := lt_of g hg egf
      rw [if_neg egf, if_pos egf']
      omega
     ·rw [if_neg egf, if_neg egf']
      exact hG.ne g (lt_of g hg egf).1 g' (lt_of g' hg' egf').1 hne
  have pending : ∀ f ∈ F, D f = false → f ∈ Region.ready md ops (setAll lo (F.filter D)) := fun f hf hD => by
   obtain ⟨o, ho, _, hnb, _⟩ := hF.op f hf
   refine mem_ready.2 ⟨?_, o, ho, fun e he hb => ?_⟩
   ·rw [setAll_getD, if_neg fun h => ?_]
    ·exact hlo f hf
    ·have := (List.mem_filter.1 h.1).2
     rw [hD] at this
     cases this
   ·rw [hnb e he] at hb
    cases hb
  match chain, hb, h, hn with
  | [], hb, h, hn =>
   unfold schedX at hb
   rw [Bool.and_eq_true, List.all_eq_true] at hb
   obtain ⟨f0, hf0, hD0⟩ := left_pos (F := F) (D := D) (by simp at hn; omega)
   have hrd := hb.1 f0 hf0
   rw [beq_iff_eq] at hrd
   have hsub2 : ∀ f ∈ F.filter D, f ∈ F.filter (fun g => g != f0) := fun f hf => by
    obtain ⟨q1, q2⟩ := List.mem_filter.1 hf
    refine List.mem_filter.2 ⟨q1, ?_⟩
    rw [bne_iff_ne]
    intro e
    rw [e, hD0] at q2
    cases q2
   have only : ∀ j, j ∈ Region.ready md ops (setAll lo (F.filter D)) → j ∈ F := fun j hj => by
    refine Classical.byContradiction fun hjF => ?_
    have := ready_less hsub2 (fun h' => hjF ((List.mem_filter.1 h').1)) hj
    rw [hrd, List.mem_singleton] at this
    exact hjF (this ▸ hf0)
   refine ⟨fun h0 => ?_, fun j hj => float j (only j hj) hj⟩
   have h1 := pending f0 hf0 hD0
   rw [h0] at h1
   cases h1
  | (i, m) :: rest, hb, h, hn =>
   obtain ⟨o, ho, h⟩ := h
   unfold schedX at hb
   simp only [Bool.and_eq_true, Bool.not_eq_true'] at hb
   obtain ⟨⟨⟨⟨hiF, hli⟩, hap⟩, hm⟩, hrec⟩ := hb
   have hap' : apF ops F o = true := by rw [ho] at hap; exact hap
   have hspec := fun f (hf : f ∈ F.filter D) => apF_spec hap' f (hsub f hf)
   have hsel := Region.noSelect_spec hs
   have hne : ∀ f ∈ F, i ≠ f := fun f hf e => by
    rw [e] at hiF
    simp at hiF
    exact hiF hf
   have hlo' : ∀ f ∈ F, (lo.setIfInBounds i true).getD f true = false := fun f hf => by
    rw [set_getD, if_neg fun h => hne f hf h.1]
    exact hlo f hf
   have hw := wanted_puts (o := o) G (F.filter D) a hspec
   have hex := exec_puts (o := o) G (fun cs b => hsel i o cs b ho) (F.filter D) a hspec
   have hpt : ∀ v, (putsG ops G (F.filter D) a).put o.dst v = putsG ops G (F.filter D) (a.put o.dst v) := fun v => putsG_put G _ v _ a (fun f hf d hd => (hspec f hf d hd).2)
   have hst := setAll_set i (F.filter D) lo
   have hn' : rest.length + leftF F D = n := by simp at hn; omega
   have next : ∀ v, wpX P ops Q W0 F cs e suf rest (a.put o.dst v) w → wpM P md ops Q lt fuel (From W0) ((setAll lo (F.filter D)).setIfInBounds i true) ((putsG ops G (F.filter D) a).put o.dst v) x := fun v h => by
    rw [hpt, hst]
    exact ih rest D G _ _ w x fuel hn' (by omega) hrec hlo' hW0 hx hG h
   have first : ∀ v, i ∈ Region.ready md ops lo → Region.free md ops lo i = true → ((lateB md ops lt i = true ∧ YieldsIf P ops (From W0) o v (putsG ops G (F.filter D) a)) ∨ Yields P ops o v (putsG ops G (F.filter D) a)) → wpX P ops Q W0 F cs e suf rest (a.put o.dst v) w →
     wpM P md ops Q lt (fuel + 1) (From W0) (setAll lo (F.filter D)) (putsG ops G (F.filter D) a) x := fun v hr hf hy h =>
    wpM_first ho hsel (hput hQ o v) fuel (From W0) _ _ _ (fun j oj hj hji hun hno => Region.free_spec ho hf j oj hj hji (by
     rw [setAll_getD] at hun
     split at hun
     ·cases hun
     ·exact hun) hno) (ready_more (hout hiF) hr) hy (hW0.trans (hx.mono hW0.size)) (next v h) hli
   match m, h, hm with
   | 0, h, hm =>
    simp only [Bool.and_eq_true] at hm
    by_cases hwa : Region.wanted o (yielded ops a.tmps) = true
    ·rw [if_pos hwa] at h
     obtain ⟨v, hv, h⟩ := h
     exact first v (by simpa using hm.1.1) hm.1.2 (.inl ⟨hm.2, .inl ⟨hw.trans hwa, fun y hy => by rw [hex]; exact hv y hy⟩⟩) h
    ·rw [if_neg hwa] at h
     exact first undef (by simpa using hm.1.1) hm.1.2 (.inr (.inr ⟨hw.trans (by simpa using hwa), rfl⟩)) h
   | 1, h, hm =>
    simp only [Bool.and_eq_true] at hm
    by_cases hwa : Region.wanted o (yielded ops a.tmps) = true
    ·rw [if_pos hwa] at h
     obtain ⟨v, hv, h⟩ := h
     exact first v (by simpa using hm.1) hm.2 (.inr (.inl ⟨hw.trans hwa, fun y => by rw [hex]; exact hv y⟩)) h
    ·rw [if_neg hwa] at h
     exact first undef (by simpa using hm.1) hm.2 (.inr (.inr ⟨hw.trans (by simpa using hwa), rfl⟩)) h
   | m + 2, h, hm =>
    have hm : (Region.ready md ops (setAll lo F) == [i]) = true := hm
    rw [beq_iff_eq] at hm
    refine ⟨fun h0 => ?_, fun j hj => ?_⟩
    ·by_cases hz : leftF F D = 0
     ·rw [left_zero hz, hm] at h0
      cases h0
     ·obtain ⟨f0, hf0, hD0⟩ := left_pos hz
      have h1 := pending f0 hf0 hD0
      rw [h0] at h1
      cases h1
    ·by_cases hjF : j ∈ F
     ·exact float j hjF hj
     ·have hji := ready_less hsub hjF hj
      rw [hm, List.mem_singleton] at hji
      subst hji
      unfold wpOp
      simp only [ho]
      by_cases hwa : Region.wanted o (yielded ops a.tmps) = true
      ·rw [if_pos (hw.trans hwa)]
       rw [if_pos hwa] at h
       refine .inl (Oper.wp_mono (fun a'' w' h' => ?_) (wp_puts G (fun cs b => hsel j o cs b ho) hQ (F.filter D) a _ hspec (h x hx)))
       obtain ⟨a', rfl, hb', h'⟩ := h'
       refine .inr ⟨hli, From W0, fun _ h => h, hW0.trans ((hx.trans (hb'.mono hx.size)).mono hW0.size), ?_⟩
       rw [hst]
       exact ih rest D G _ a' w' w' fuel hn' (by omega) hrec hlo' (hW0.trans ((hx.trans (hb'.mono hx.size)).mono hW0.size)) (From.refl w') ⟨fun f hf => ⟨(hG.at_ f hf).1, (hb'.block _ (Array.getElem?_eq_some_iff.1 (hG.at_ f hf).2).1).trans (hG.at_ f hf).2⟩, hG.ne⟩ h'
      ·rw [if_neg (fun h => hwa (hw.symm.trans h))]
       rw [if_neg hwa] at h
       exact .inr ⟨hli, From W0, fun _ h => h, hW0.trans (hx.mono hW0.size), next undef h⟩
def putsE (G : Nat → Nat) (F : List (Nat × Nat)) (a : Act) : Act := F.foldl (fun a p => a.put (some p.2) (.pointer (some ⟨G p.1, 0, none⟩))) a
theorem putsG_E (G : Nat → Nat) : ∀ (F : List (Nat × Nat)) (a : Act), (∀ p ∈ F, dstOf ops p.1 = some p.2) → putsG ops G (F.map (·.1)) a = putsE G F a
 | [], _, _ => rfl
 | p :: F, a, h => by
  rw [List.map_cons, putsG_cons, h p (List.mem_cons_self ..), putsG_E G F _ fun q hq => h q (List.mem_cons_of_mem _ hq)]
  rfl
def schedXA (ops : Array Oper) (F : List Nat) (chain : List (Nat × Nat)) (suf : STr) : Bool :=
 Region.noSelect ops && decide (chain.length + F.length + suf.len ≤ ops.size) && schedX .any ops (fun i => suf.late.contains i) F suf chain (Array.replicate ops.size false) &&
 F.all (fun f => !suf.late.contains f && decide (f < ops.size) && F.all (fun g => f == g || ((dstOf ops f).isSome && dstOf ops f != dstOf ops g))) && decide F.Nodup
theorem wp_region_X {id : Nat} {a : Act} {w : World} (F : List Nat) (chain : List (Nat × Nat)) (suf : STr) (cs : Array Value) (e : TypeId) (hm : P.follows .mixedOrders = true) (hb : schedXA ops F chain suf = true)
  (hop : ∀ f ∈ F, ∃ o, ops[f]? = some o ∧ o.guard = none ∧ (∀ e ∈ o.after, Region.binds .any e = false) ∧ ∀ (ev : Operand → Value) (x : World), (execOp ev o).run P x = .ok (.value (.pointer (some ⟨x.heap.size, 0, none⟩))) (x.alloc (.cells cs e)))
  (hQ : ∀ c (a : Act) (t : Array Value) w, Q (.panic c) { a with tmps := t } w → Q (.panic c) a w)
  (h : wpX P ops Q w.drew F cs e suf chain a w.drew) : (Code.region id ops true).wp P Q a w := by
 unfold schedXA at hb
 simp only [Bool.and_eq_true, decide_eq_true_eq] at hb
 obtain ⟨⟨⟨⟨h1, h2⟩, h3⟩, h4⟩, h5⟩ := hb
 rw [List.all_eq_true] at h4
 have hF : Floats P .any ops (fun i => suf.late.contains i) F cs e := ⟨hop, fun f hf => by
   have := h4 f hf
   simp only [Bool.and_eq_true, Bool.not_eq_true'] at this
   exact this.1.1, h5, fun f hf g hg hne d hd => by
   have := h4 f hf
   simp only [Bool.and_eq_true, List.all_eq_true] at this
   have := this.2 g hg
   rw [Bool.or_eq_true, beq_iff_eq] at this
   rcases this with h | h
   ·exact absurd h hne
   ·rw [Bool.and_eq_true, bne_iff_ne] at h
    rw [← hd]
    exact fun e => h.2 e.symm⟩
 have hnil : F.filter (fun _ => false) = [] := List.filter_eq_nil_iff.2 (by simp)
 have hlen : leftF F (fun _ => false) = F.length := by
  unfold leftF
  rw [List.filter_eq_self.2 (by simp)]
 have hM := wpM_of_X (W0 := w.drew) hF h1 hQ (chain.length + F.length) chain (fun _ => false) (fun _ => 0) (Array.replicate ops.size false) a w.drew w.drew ops.size (by rw [hlen]) (by omega) h3 (fun f hf => by
   have := h4 f hf
   simp only [Bool.and_eq_true, decide_eq_true_eq] at this
   rw [Array.getD_eq_getD_getElem?]
   simp [this.1.2]) (From.refl _) (From.refl _) ⟨fun f hf => absurd (hnil ▸ hf : f ∈ ([] : List Nat)) (List.not_mem_nil), fun f hf => absurd (hnil ▸ hf : f ∈ ([] : List Nat)) (List.not_mem_nil)⟩ h
 rw [hnil] at hM
 exact wp_region_any hm (wpAny_of_M _ _ _ _ _ hM)

def FlOp (P : Program) (ops : Array Oper) (cs : Array Value) (e : TypeId) (f : Nat) : Prop := ∃ o, ops[f]? = some o ∧ o.guard = none ∧ (∀ e ∈ o.after, Region.binds .any e = false) ∧ ∀ (ev : Operand → Value) (x : World), (execOp ev o).run P x = .ok (.value (.pointer (some ⟨x.heap.size, 0, none⟩))) (x.alloc (.cells cs e))
def XGo (P : Program) (ops : Array Oper) (Q : Exit → Act → World → Prop) (F : List (Nat × Nat)) (cs : Array Value) (e : TypeId) (suf : STr) (W0 : World) : List (Nat × Nat) → Act → World → Prop
 | [], a, w => ∀ (G : Nat → Nat) (x : World), From W0 x → From w x → FlAt W0 (F.map (·.1)) cs e G x → wpS P ops Q W0 suf (putsE G F a) x
 | (i, m) :: rest, a, w => ∃ o, ops[i]? = some o ∧
  if Region.wanted o (yielded ops a.tmps) = true then
   (match m with
    | 0 => ∃ v, (∀ x, From W0 x → (execOp a.eval o).run P x = .ok (.value v) x) ∧ XGo P ops Q F cs e suf W0 rest (a.put o.dst v) w
    | 1 => ∃ v, (∀ x, (execOp a.eval o).run P x = .ok (.value v) x) ∧ XGo P ops Q F cs e suf W0 rest (a.put o.dst v) w
    | _ => ∀ x, From w x → o.wp P a x (fun a' w' => FromT x w' (XGo P ops Q F cs e suf W0 rest a' w')) Q)
  else XGo P ops Q F cs e suf W0 rest (a.put o.dst undef) w
theorem X_of_go {W0 : World} {F : List (Nat × Nat)} {cs : Array Value} {e : TypeId} {suf : STr} (hd : ∀ p ∈ F, dstOf ops p.1 = some p.2) : ∀ (chain : List (Nat × Nat)) (a : Act) (w : World), XGo P ops Q F cs e suf W0 chain a w → wpX P ops Q W0 (F.map (·.1)) cs e suf chain a w
 | [], a, w, h => fun G x h0 hx hF => by rw [putsG_E G F a hd]; exact h G x h0 hx hF
 | (i, m) :: rest, a, w, h => by
  obtain ⟨o, ho, h⟩ := h
  refine ⟨o, ho, ?_⟩
  split
  ·rename_i hw
   rw [if_pos hw] at h
   match m, h with
   | 0, ⟨v, hv, h⟩ => exact ⟨v, hv, X_of_go hd rest _ _ h⟩
   | 1, ⟨v, hv, h⟩ => exact ⟨v, hv, X_of_go hd rest _ _ h⟩
   | m + 2, h => exact fun x hx => Oper.wp_mono (fun a' w' h' => ⟨h'.1, X_of_go hd rest _ _ h'.2⟩) (h x hx)
  ·rename_i hw
   rw [if_neg hw] at h
   exact X_of_go hd rest _ _ h
theorem wp_region_XE {id : Nat} {a : Act} {w : World} (F chain : List (Nat × Nat)) (suf : STr) (cs : Array Value) (e : TypeId) (hm : P.follows .mixedOrders = true) (hb : schedXA ops (F.map (·.1)) chain suf = true) (hd : F.all (fun p => dstOf ops p.1 == some p.2) = true)
  (hop : ∀ p ∈ F, FlOp P ops cs e p.1) (hQ : ∀ c (a : Act) (t : Array Value) w, Q (.panic c) { a with tmps := t } w → Q (.panic c) a w)
  (h : XGo P ops Q F cs e suf w.drew chain a w.drew) : (Code.region id ops true).wp P Q a w :=
 wp_region_X (F.map (·.1)) chain suf cs e hm hb (fun f hf => by
  obtain ⟨p, hp, rfl⟩ := List.mem_map.1 hf
  exact hop p hp) hQ (X_of_go (fun p hp => by
   have := List.all_eq_true.1 hd p hp
   simpa using this) chain a w.drew h)
theorem flOp_of {cs : Array Value} {e : TypeId} {f : Nat} {o : Oper} (ho : ops[f]? = some o) (hg : o.guard = none) (ha : o.after = #[]) (hr : ∀ (ev : Operand → Value) (x : World), (execOp ev o).run P x = .ok (.value (.pointer (some ⟨x.heap.size, 0, none⟩))) (x.alloc (.cells cs e))) : FlOp P ops cs e f :=
 ⟨o, ho, hg, fun e he => by rw [ha] at he; simp at he, hr⟩

variable {W0 : World} {F : List (Nat × Nat)} {cs : Array Value} {e : TypeId} {suf : STr} {i : Nat} {o : Oper} {rest : List (Nat × Nat)} {a : Act} {w : World} {v : Value}
theorem wpX_nil (h : ∀ (G : Nat → Nat) (x : World), From W0 x → From w x → FlAt W0 (F.map (·.1)) cs e G x → wpS P ops Q W0 suf (putsE G F a) x) : XGo P ops Q F cs e suf W0 [] a w := h
theorem wpX_pure (ho : ops[i]? = some o) (hw : Region.wanted o (yielded ops a.tmps) = true) (hv : ∀ x, (execOp a.eval o).run P x = .ok (.value v) x) (h : XGo P ops Q F cs e suf W0 rest (a.put o.dst v) w) : XGo P ops Q F cs e suf W0 ((i, 1) :: rest) a w :=
 ⟨o, ho, by rw [if_pos hw]; exact ⟨v, hv, h⟩⟩
theorem wpX_read (ho : ops[i]? = some o) (hw : Region.wanted o (yielded ops a.tmps) = true) (hv : ∀ x, From W0 x → (execOp a.eval o).run P x = .ok (.value v) x) (h : XGo P ops Q F cs e suf W0 rest (a.put o.dst v) w) : XGo P ops Q F cs e suf W0 ((i, 0) :: rest) a w :=
 ⟨o, ho, by rw [if_pos hw]; exact ⟨v, hv, h⟩⟩
theorem wpX_call (ho : ops[i]? = some o) (hw : Region.wanted o (yielded ops a.tmps) = true) (h : ∀ x, From w x → ∀ K : Act → World → Prop, (∀ a' w', FromT x w' (XGo P ops Q F cs e suf W0 rest a' w') → K a' w') → o.wp P a x K Q) : XGo P ops Q F cs e suf W0 ((i, 2) :: rest) a w :=
 ⟨o, ho, by rw [if_pos hw]; exact fun x hx => h x hx _ (fun _ _ h => h)⟩
theorem wpX_skip {m : Nat} (ho : ops[i]? = some o) (hw : Region.wanted o (yielded ops a.tmps) = false) (h : XGo P ops Q F cs e suf W0 rest (a.put o.dst undef) w) : XGo P ops Q F cs e suf W0 ((i, m) :: rest) a w :=
 ⟨o, ho, by rw [if_neg (by rw [hw]; exact Bool.false_ne_true)]; exact h⟩
theorem wpX_load {t : TypeId} {x : Operand} (ho : ops[i]? = some o) (hop : o.op = .load t x) (hw : Region.wanted o (yielded ops a.tmps) = true) (hv : (execOp a.eval o).run P W0 = .ok (.value v) W0) (h : XGo P ops Q F cs e suf W0 rest (a.put o.dst v) w) : XGo P ops Q F cs e suf W0 ((i, 0) :: rest) a w := by
 refine wpX_read ho hw (fun y hy => ?_) h
 have hr : readB P (execOp a.eval o) := by
  unfold execOp
  rw [hop]
  exact readB_bind' (readB_loadAt t _) fun _ => trivial
 exact (readB_run _ hr hv).2 y hy
end
end Go.Proofs.YtnohmgpmmhlloaaGreatDoor

namespace Go.Proofs.YtnohmgpmmhlloaaGreatDoor
open Go.RowKit

structure Arr (n : Nat) (cs : Array Value) : Prop where
 size : cs.size = n
 one : cs.all (·.oneCell') = true
inductive Upd (g : Nat) (c cs : Array Value) (e : TypeId) : List Chunk → List Chunk → Prop where
 | head {H : List Chunk} : Upd g c cs e (.cells g c e :: H) (.cells g cs e :: H)
 | tail {d : Chunk} {H H' : List Chunk} (h : Upd g c cs e H H') : Upd g c cs e (d :: H) (d :: H')
theorem Upd.at {g : Nat} {c cs : Array Value} {e : TypeId} {H H' : List Chunk} (h : Upd g c cs e H H') : ∃ i : Nat, H[i]? = some (.cells g c e) ∧ H' = H.set i (.cells g cs e) := by
 induction h with
 | head => exact ⟨0, rfl, rfl⟩
 | tail h ih =>
  obtain ⟨i, h1, h2⟩ := ih
  exact ⟨i + 1, by simpa using h1, by rw [h2]; rfl⟩
section
variable {P : Program} {w0 w : World} {M : Nat → Prop} {H H' : List Chunk}
theorem St.heapM (h : St w0 M w H) {g : Nat} {cs : Array Value} {e : TypeId} (hm : Chunk.cells g cs e ∈ H) : w.heap[g]? = some (.cells cs e (0, 0)) := by
 obtain ⟨i, hi⟩ := List.getElem?_of_mem hm
 exact h.heap i hi
theorem St.updR (h : St w0 M w H) {g : Nat} {c cs : Array Value} {e : TypeId} (hu : Upd g c cs e H H') : w.heap[g]? = some (.cells c e (0, 0)) ∧ St w0 M (w.setRow g cs) H' := by
 obtain ⟨i, hi, rfl⟩ := hu.at
 exact ⟨h.heap i hi, h.setRow i hi cs⟩
theorem St.addAt (h : St w0 M w H) {c : Chunk} {g : Nat} (hc : c.sat w) (hb : c.block = some g) (hg : w0.heap.size ≤ g) (hf : ∀ d ∈ H, d.block ≠ some g) : St w0 M w (c :: H) := by
 refine ⟨h.ext, ?_, ?_, ?_⟩
 ·intro i d hd
  cases i with
  | zero => simp only [List.getElem?_cons_zero, Option.some.injEq] at hd; subst hd; exact hc
  | succ i => exact h.sat i d (by simpa using hd)
 ·intro i d k hd hk
  cases i with
  | zero =>
   simp only [List.getElem?_cons_zero, Option.some.injEq] at hd
   subst hd
   rw [hb] at hk
   injection hk with hk
   exact .inl (hk ▸ hg)
  | succ i => exact h.own i d k (by simpa using hd) hk
 ·intro i j d e k hij hd he hk hk'
  cases i with
  | zero =>
   simp only [List.getElem?_cons_zero, Option.some.injEq] at hd
   subst hd
   cases j with
   | zero => exact hij rfl
   | succ j => exact hf e (List.mem_of_getElem? (by simpa using he)) (hk'.trans (hk.symm.trans hb))
  | succ i =>
   cases j with
   | zero =>
    simp only [List.getElem?_cons_zero, Option.some.injEq] at he
    subst he
    exact hf d (List.mem_of_getElem? (by simpa using hd)) (hk.trans (hk'.symm.trans hb))
   | succ j => exact h.apart i j d e k (by omega) (by simpa using hd) (by simpa using he) hk hk'
theorem St.floats {W0 x : World} {F : List Nat} {cs : Array Value} {e : TypeId} {G : Nat → Nat} (h : St w0 M W0 H) (hx : From W0 x) (hF : FlAt W0 F cs e G x) : ∀ (F' : List Nat), F'.Nodup → (∀ f ∈ F', f ∈ F) → St w0 M x (F'.map (fun f => Chunk.cells (G f) cs e) ++ H) := by
 have hc := h.call hx
 intro F'
 induction F' with
 | nil => intro _ _; exact hc
 | cons f F' ih =>
  intro hn hs
  obtain ⟨hf, hn'⟩ := List.nodup_cons.1 hn
  have ih := ih hn' fun g hg => hs g (List.mem_cons_of_mem _ hg)
  have hGf := hF.at_ f (hs f (List.mem_cons_self ..))
  have hfresh : ∀ c ∈ F'.map (fun f => Chunk.cells (G f) cs e) ++ H, c.block ≠ some (G f) := fun c hcm e' => by
   rcases List.mem_append.1 hcm with hm | hm
   ·obtain ⟨g, hg, rfl⟩ := List.mem_map.1 hm
    have : G g = G f := by injection e'
    exact hF.ne g (hs g (List.mem_cons_of_mem _ hg)) f (hs f (List.mem_cons_self ..)) (fun e => hf (e ▸ hg)) this
   ·obtain ⟨i, hi⟩ := List.getElem?_of_mem hm
    have := Chunk.lt (h.sat i c hi) e'
    omega
  have hsat : (Chunk.cells (G f) cs e).sat x := hGf.2
  exact ih.addAt hsat rfl (Nat.le_trans h.ext.size hGf.1) hfresh
def Part (cs part : Array Value) (off : Nat) : Prop := ∀ (j : Nat) (v : Value), part[j]? = some v → cs[off + j]? = some v
def quad (a b c d : Array Value) : Array Value := a ++ b ++ c ++ d
theorem quad_size (a b c d : Array Value) : (quad a b c d).size = a.size + b.size + c.size + d.size := by unfold quad; rw [Array.size_append, Array.size_append, Array.size_append]
theorem quad_arr {n : Nat} {a b c d : Array Value} (ha : Arr n a) (hb : Arr n b) (hc : Arr n c) (hd : Arr n d) {m : Nat} (hm : n * 4 = m) : Arr m (quad a b c d) :=
 ⟨by rw [quad_size, ha.size, hb.size, hc.size, hd.size]; omega, by unfold quad; rw [Array.all_append, Array.all_append, Array.all_append, ha.one, hb.one, hc.one, hd.one]; rfl⟩
inductive PartN (n : Nat) : Array Value → Array Value → Nat → Prop where
 | all {cs : Array Value} (h : Arr n cs) : PartN n cs cs 0
 | q0 {a b c d : Array Value} (ha : Arr n a) : PartN n (quad a b c d) a 0
 | q1 {a b c d : Array Value} (ha : Arr n a) (hb : Arr n b) : PartN n (quad a b c d) b (n * 1)
 | q2 {a b c d : Array Value} (ha : Arr n a) (hb : Arr n b) (hc : Arr n c) : PartN n (quad a b c d) c (n * 2)
 | q3 {a b c d : Array Value} (ha : Arr n a) (hb : Arr n b) (hc : Arr n c) (hd : Arr n d) : PartN n (quad a b c d) d (n * 3)
theorem app_l {a b : Array Value} {j : Nat} {v : Value} (h : a[j]? = some v) : (a ++ b)[j]? = some v := by
 rw [Array.getElem?_append_left (Array.getElem?_eq_some_iff.1 h).1]; exact h
theorem app_r {a b : Array Value} {j k : Nat} {v : Value} (h : b[j]? = some v) (hk : a.size = k) : (a ++ b)[k + j]? = some v := by
 rw [Array.getElem?_append_right (by omega), show k + j - a.size = j from by omega]; exact h
theorem PartN.ok {n : Nat} {cs part : Array Value} {off : Nat} (h : PartN n cs part off) : part.size = n ∧ Part cs part off := by
 cases h with
 | all h => exact ⟨h.size, fun j v h => by rw [Nat.zero_add]; exact h⟩
 | q0 ha => exact ⟨ha.size, fun j v h => by rw [Nat.zero_add]; exact app_l (app_l (app_l h))⟩
 | q1 ha hb => exact ⟨hb.size, fun j v h => app_l (app_l (app_r h (by rw [ha.size, Nat.mul_one])))⟩
 | q2 ha hb hc => exact ⟨hc.size, fun j v h => app_l (app_r h (by rw [Array.size_append, ha.size, hb.size]; omega))⟩
 | q3 ha hb hc hd => exact ⟨hd.size, fun j v h => app_r h (by rw [Array.size_append, Array.size_append, ha.size, hb.size, hc.size]; omega)⟩
def isRow (d : TypeDesc) : Bool := match d with | .struct _ | .array _ _ => true | _ => false
theorem run_loadVar_part (w : World) (g off : Nat) (t ty : TypeId) (cs part : Array Value) (fr : Nat × Nat) (d : TypeDesc) (hg : w.heap[g]? = some (.cells cs t fr))
  (hu : P.underlying ty = some d) (hd : isRow d = true) (hi : (P.info? ty).map (·.size) = some part.size) (hp : Part cs part off) :
  (loadVar ty ⟨g, off, none⟩).run P w = .ok (.agg part) w := by
 have hl : (loadCells ⟨g, off, none⟩ part.toList.length).run P w = .ok part.toList.toArray w :=
  run_loadCells_list (P := P) w ⟨g, off, none⟩ part.toList (fun j v hv => by
   have hadd : (⟨g, off, none⟩ : Addr).add j = ⟨g, off + j, none⟩ := by unfold Addr.add; split <;> simp_all
   rw [hadd, cell_of_row w g (off + j) cs t fr hg]
   exact hp j v (by simpa using hv))
 cases hq : P.info? ty with
 | none => simp [hq] at hi
 | some i =>
  have hs : i.size = part.size := by simpa [hq] using hi
  have hagg : (isAgg ty).run P w = .ok true w := by
   unfold isAgg
   rw [Sem.run_bind, run_underlying hu w]
   cases d <;> simp_all [isRow]
  simp only [Array.length_toList, Array.toArray_toList] at hl
  simp [loadVar, Sem.run_bind, hagg, sizeOf, typeInfo, hq, hs, hl]
structure RowOf (P : Program) (t : TypeId) (n : Nat) : Prop where
 d : ∃ d, P.underlying t = some d ∧ isRow d = true
 n : (P.info? t).map (·.size) = some n
theorem run_load_part {o : Oper} {a : Act} {t : TypeId} {x : Operand} {n : Nat} (ho : o.op = .load t x) (hT : RowOf P t n) {g off : Nat} (hx : a.eval x = .pointer (some ⟨g, off, none⟩)) {cs part : Array Value} {e : TypeId} (hg : w.heap[g]? = some (.cells cs e (0, 0))) (hp : PartN n cs part off) :
  (execOp a.eval o).run P w = .ok (.value (.agg part)) w := by
 obtain ⟨⟨d, hu, hd⟩, hi⟩ := hT
 have h := run_loadVar_part (P := P) w g off e t cs part (0, 0) d hg hu hd (by rw [hi, hp.ok.1]) hp.ok.2
 unfold execOp
 simp only [ho, hx, Instr.loadAt, Instr.sureAddr, Sem.run_bind, Sem.run_pure, Result.andThen_ok, h]
end
section
variable {P : Program} {ops : Array Oper} {Q : Exit → Act → World → Prop} {rest : List Oper} {restT : List (Nat × Nat)} {i : Nat} {o : Oper} {a : Act} {w0 w : World} {M : Nat → Prop} {H H' : List Chunk} {t e : TypeId} {n g off : Nat} {x : Operand} {cs part : Array Value}
 {W0 : World} {F : List (Nat × Nat)} {fc : Array Value} {fe : TypeId} {suf : STr}
theorem wp_loadP {K : Act → World → Prop} (ho : o.op = .load t x) (hx : a.eval x = .pointer (some ⟨g, off, none⟩)) (hS : St w0 M w H) (hm : Chunk.cells g cs e ∈ H) (hp : PartN n cs part off) (hT : RowOf P t n)
  (h : K (a.put o.dst (.agg part)) w) : o.wp P a w K Q := by
 unfold Oper.wp
 rw [run_load_part ho hT hx (hS.heapM hm) hp]
 exact h
theorem wl_loadP (hgd : o.guard = none) (ho : o.op = .load t x) (hx : a.eval x = .pointer (some ⟨g, off, none⟩)) (hS : St w0 M w H) (hm : Chunk.cells g cs e ∈ H) (hT : RowOf P t n) (hp : PartN n cs part off)
  (h : wpList P ops Q rest (a.put o.dst (.agg part)) w) : wpList P ops Q (o :: rest) a w :=
 wpList_plain hgd fun K hK => by
  unfold Oper.wp
  rw [run_load_part ho hT hx (hS.heapM hm) hp]
  exact hK _ _ h
theorem wpT_loadP (hoi : ops[i]? = some o) (ho : o.op = .load t x) (hw : Region.wanted o (yielded ops a.tmps) = true) (hx : a.eval x = .pointer (some ⟨g, off, none⟩)) (hS : St w0 M w H) (hm : Chunk.cells g cs e ∈ H) (hT : RowOf P t n) (hp : PartN n cs part off)
  (h : wpT P ops Q restT (a.put o.dst (.agg part)) w) : wpT P ops Q ((i, 0) :: restT) a w :=
 wpT_load hoi ho hw (run_load_part ho hT hx (hS.heapM hm) hp) h
theorem wpX_loadP (hoi : ops[i]? = some o) (ho : o.op = .load t x) (hw : Region.wanted o (yielded ops a.tmps) = true) (hx : a.eval x = .pointer (some ⟨g, off, none⟩)) (hS : St w0 M W0 H) (hm : Chunk.cells g cs e ∈ H) (hT : RowOf P t n) (hp : PartN n cs part off)
  (h : XGo P ops Q F fc fe suf W0 restT (a.put o.dst (.agg part)) w) : XGo P ops Q F fc fe suf W0 ((i, 0) :: restT) a w :=
 wpX_load hoi ho hw (run_load_part ho hT hx (hS.heapM hm) hp) h
theorem wpX_callF {f : FuncId} {xs : List Operand} {ts : Array TypeId} {vs : List Value} {R : World → Ending → World → Prop} (ho : ops[i]? = some o) (hw : Region.wanted o (yielded ops a.tmps) = true)
  (hop : o.op = .call { callee := .value (.func f), args := xs.toArray, argTypes := ts }) (hf : ∀ (args : Array Value) (w : World), (callFunc f args).run P w = .ok (.enter f args) w)
  (hx : xs.map a.eval = vs) (hc : ∀ x, Calls P f vs.toArray x (R x)) (h : ∀ x e w', R x e w' → ∃ v, e = .returned v ∧ Below x.heap.size x w' ∧ XGo P ops Q F fc fe suf W0 restT (a.put o.dst v) w') : XGo P ops Q F fc fe suf W0 ((i, 2) :: restT) a w :=
 wpX_call ho hw fun x _ K hK => wp_call hop hf hx (hc x) fun e w' hr => by
  obtain ⟨v, he, hb, hk⟩ := h x e w' hr
  exact ⟨v, he, hK _ _ ⟨hb, hk⟩⟩
theorem wp_storeR {K : Act → World → Prop} {p : Operand} {c : Array Value} (ho : o.op = .store t p x) (hp : a.eval p = .pointer (some ⟨g, 0, none⟩)) (hx : a.eval x = .agg cs) (hS : St w0 M w H) (hT : RowOf P t n) (hu : Upd g c cs e H H') (hc : Arr n c) (hcs : Arr n cs)
  (h : ∀ w', St w0 M w' H' → K (a.put o.dst undef) w') : o.wp P a w K Q := by
 obtain ⟨h1, h2⟩ := hS.updR hu
 exact wp_store_row t p x ho g cs hp hx e c h1 (by rw [hT.n, hcs.size]) (by rw [hc.size, hcs.size]) hcs.one (h _ h2)
theorem wl_storeR {p : Operand} {c : Array Value} (hgd : o.guard = none) (ho : o.op = .store t p x) (hp : a.eval p = .pointer (some ⟨g, 0, none⟩)) (hx : a.eval x = .agg cs) (hS : St w0 M w H) (hT : RowOf P t n) (hu : Upd g c cs e H H') (hc : Arr n c) (hcs : Arr n cs)
  (h : ∀ w', St w0 M w' H' → wpList P ops Q rest (a.put o.dst undef) w') : wpList P ops Q (o :: rest) a w :=
 wpList_plain hgd fun _ hK => wp_storeR ho hp hx hS hT hu hc hcs fun w' h' => hK _ _ (h w' h')
theorem wpS_storeF {p : Operand} {c : Array Value} {restS : STr} (hoi : ops[i]? = some o) (hw : Region.wanted o (yielded ops a.tmps) = true) (ho : o.op = .store t p x) (hp : a.eval p = .pointer (some ⟨g, 0, none⟩)) (hx : a.eval x = .agg cs) (hS : St w0 M w H) (hX : From W0 w) (hg : W0.heap.size ≤ g) (hT : RowOf P t n) (hu : Upd g c cs e H H') (hc : Arr n c) (hcs : Arr n cs)
  (h : ∀ w', St w0 M w' H' → From W0 w' → wpS P ops Q W0 restS (a.put o.dst undef) w') : wpS P ops Q W0 (.op i 2 restS) a w :=
 wpS_call hoi hw fun K hK => by
  obtain ⟨h1, h2⟩ := hS.updR hu
  have hX' : From W0 (w.setRow g cs) := ⟨hX.os, hX.tape, hX.output, by rw [size_setRow]; exact hX.size, fun k hk => (setRow_other w g k cs (by omega)).trans (hX.block k hk)⟩
  exact wp_store_row t p x ho g cs hp hx e c h1 (by rw [hT.n, hcs.size]) (by rw [hc.size, hcs.size]) hcs.one (hK _ _ ⟨hX', h _ h2 hX'⟩)
def NewOf (P : Program) (t : TypeId) (zs : Array Value) : Prop := ∀ x : World, (Instr.alloc t true (.tuple #[])).run P x = .ok (.pointer (some ⟨x.heap.size, 0, none⟩)) (x.alloc (.cells zs t))
theorem run_allocR {zs : Array Value} (ho : o.op = .alloc t) (hN : NewOf P t zs) (ev : Operand → Value) (y : World) : (execOp ev o).run P y = .ok (.value (.pointer (some ⟨y.heap.size, 0, none⟩))) (y.alloc (.cells zs t)) := by
 unfold execOp
 simp only [ho, Sem.run_bind, hN y, Sem.run_pure, Result.andThen_ok]
theorem wl_allocR {zs : Array Value} (hgd : o.guard = none) (ho : o.op = .alloc t) (hS : St w0 M w H) (hN : NewOf P t zs)
  (h : ∀ g w', St w0 M w' (.cells g zs t :: H) → wpList P ops Q rest (a.put o.dst (.pointer (some ⟨g, 0, none⟩))) w') : wpList P ops Q (o :: rest) a w :=
 wpList_plain hgd fun _ hK => by
  unfold Oper.wp
  rw [run_allocR ho hN]
  exact hK _ _ (h _ _ (hS.alloc zs t))
theorem wl_boxR (hgd : o.guard = none) (ho : o.op = .box t x) (hx : a.eval x = .agg cs) (hS : St w0 M w H)
  (h : ∀ g w', St w0 M w' (.cells g cs t :: H) → wpList P ops Q rest (a.put o.dst (.pointer (some ⟨g, 0, none⟩))) w') : wpList P ops Q (o :: rest) a w :=
 wpList_plain hgd fun _ hK => by
  unfold Oper.wp execOp
  simp only [ho, hx, Sem.run_bind, Instr.box, newVar, newRow, run_newObj_alloc, Sem.run_pure, Result.andThen_ok]
  exact hK _ _ (h _ _ (hS.alloc cs t))
def BuildOf (P : Program) (t : TypeId) (A : Array Value → Prop) : Prop := ∀ a b c d : Array Value, A a → A b → A c → A d → P.built t [(0, .agg a), (1, .agg b), (2, .agg c), (3, .agg d)] = some (quad a b c d)
theorem run_build4 {A : Array Value → Prop} {p q r s : Operand} {va vb vc vd : Array Value} (ho : o.op = .build t #[(0, p), (1, q), (2, r), (3, s)]) (h0 : a.eval p = .agg va) (h1 : a.eval q = .agg vb) (h2 : a.eval r = .agg vc) (h3 : a.eval s = .agg vd)
  (hB : BuildOf P t A) (ha : A va) (hb : A vb) (hc : A vc) (hd : A vd) (y : World) : (execOp a.eval o).run P y = .ok (.value (.agg (quad va vb vc vd))) y := by
 have hf := hB va vb vc vd ha hb hc hd
 have e : ((#[(0, p), (1, q), (2, r), (3, s)] : Array (Nat × Operand)).map fun (i, x) => (i, a.eval x)).toList = [(0, .agg va), (1, .agg vb), (2, .agg vc), (3, .agg vd)] := by
  simp [h0, h1, h2, h3]
 unfold execOp
 simp only [ho]
 simp only [Sem.run_bind, run_build y t _ _ (by rw [e]; exact hf), Result.andThen_ok]
 rfl
end
end Go.Proofs.YtnohmgpmmhlloaaGreatDoor

namespace Go.Proofs.YtnohmgpmmhlloaaGreatDoor
open Go.RowKit

def nv : List Int → Int
 | [] => 0
 | x :: xs => x + 65536 * nv xs
def NB (xs : List Int) : Prop := xs.length = 16 ∧ ∀ (k : Nat) (x : Int), xs[k]? = some x → (if k = 0 then -76 else 0) ≤ x ∧ x < 65536 + (if k = 0 then 76 else 0)
end Go.Proofs.YtnohmgpmmhlloaaGreatDoor

namespace Go.Proofs.YtnohmgpmmhlloaaGreatDoor
open Go.RowKit
set_option linter.unusedSimpArgs false

def ivs (xs : List Int) : List Value := xs.map (.int .i64 ·)
theorem ivs_len (xs : List Int) : (ivs xs).length = xs.length := by simp [ivs]
end Go.Proofs.YtnohmgpmmhlloaaGreatDoor

namespace Go.Proofs.YtnohmgpmmhlloaaGreatDoor
open Go.RowKit
set_option linter.unusedSimpArgs false

section
variable {P : Program} {ops : Array Oper} {rest : List Oper} {o : Oper} {a : Act} {w : World} {Q : Exit → Act → World → Prop}
end
end Go.Proofs.YtnohmgpmmhlloaaGreatDoor

namespace Go.Proofs.YtnohmgpmmhlloaaGreatDoor
open Go.RowKit
set_option linter.unusedSimpArgs false

end Go.Proofs.YtnohmgpmmhlloaaGreatDoor

namespace Go.Proofs.YtnohmgpmmhlloaaGreatDoor
open Go.RowKit
set_option linter.unusedSimpArgs false

end Go.Proofs.YtnohmgpmmhlloaaGreatDoor

namespace Go.Proofs.YtnohmgpmmhlloaaGreatDoor
open Go.RowKit
set_option linter.unusedSimpArgs false

theorem rd_at' {w : World} {B : Option Addr} {n d : Nat} {xs : List Value} {k : Nat} {u : Value} (h : Rd w (.slice B n d) 1 n xs) (hk : xs[k]? = some u) : ∃ b o, B = some ⟨b, o, none⟩ ∧ w.cell? ⟨b, o + k, none⟩ = some u := by
 rcases h.cases with ⟨_, _, h0⟩ | ⟨b, o, sp, c', hv, _, _, _, hl, h4, hc⟩
 ·rw [h0] at hk; simp at hk
 ·injection hv with hv1 _ _
  have hkl : k < xs.length := (List.getElem?_eq_some_iff.1 hk).1
  have := h4 (by omega)
  subst this hv1
  exact ⟨b, o, rfl, hc k u hk⟩
def NE (xs : List Int) (X : FK) : Prop := NB xs ∧ nv xs % (Pq : Int) = (X.val : Int)
end Go.Proofs.YtnohmgpmmhlloaaGreatDoor

namespace Go.Proofs.YtnohmgpmmhlloaaGreatDoor
open Go.RowKit
set_option linter.unusedSimpArgs false

section
variable {xs ys : List Int} {X Y : FK}
end
end Go.Proofs.YtnohmgpmmhlloaaGreatDoor

namespace Go.Proofs.YtnohmgpmmhlloaaGreatDoor
open Go.RowKit
set_option linter.unusedSimpArgs false

theorem ivs_size {zs : List Int} {X : FK} (h : NE zs X) : (ivs zs).toArray.size = 16 := by rw [List.size_toArray, ivs_len]; exact h.1.1
end Go.Proofs.YtnohmgpmmhlloaaGreatDoor

namespace Go.Proofs.YtnohmgpmmhlloaaGreatDoor
open Go.RowKit
set_option linter.unusedSimpArgs false

structure EA (a : Array Value) (X : FK) : Prop where
 ex : ∃ p q s t u : Nat, a = #[.int .u64 (p : Int), .int .u64 (q : Int), .int .u64 (s : Int), .int .u64 (t : Int), .int .u64 (u : Int)] ∧ ev [p, q, s, t, u] = X.val ∧ Red [p, q, s, t, u]
theorem EA.arr {a : Array Value} {X : FK} (h : EA a X) : Arr 5 a := by
 obtain ⟨p, q, s, t, u, rfl, _, _⟩ := h.ex
 exact ⟨rfl, by simp [Value.oneCell']⟩
structure NA (a : Array Value) (X : FK) : Prop where
 ex : ∃ xs, a = (ivs xs).toArray ∧ NE xs X
theorem NA.arr {a : Array Value} {X : FK} (h : NA a X) : Arr 16 a := by
 obtain ⟨xs, rfl, hx⟩ := h.ex
 exact ⟨ivs_size hx, by rw [List.all_toArray, List.all_eq_true]; intro v hv; unfold ivs at hv; obtain ⟨n, _, rfl⟩ := List.mem_map.1 hv; rfl⟩
def ResE (w : World) (X : FK) (e : Ending) (w' : World) : Prop := ∃ z, EA z X ∧ e = .returned (.agg z) ∧ Below w.heap.size w w'
theorem res_of {w : World} {X : FK} {e : Ending} {w' : World} (h : ∃ p q s t u : Nat, ev [p, q, s, t, u] = X.val ∧ Red [p, q, s, t, u] ∧ e = .returned (.agg #[.int .u64 (p : Int), .int .u64 (q : Int), .int .u64 (s : Int), .int .u64 (t : Int), .int .u64 (u : Int)]) ∧ Below w.heap.size w w') : ResE w X e w' := by
 obtain ⟨p, q, s, t, u, h1, h2, h3, h4⟩ := h
 exact ⟨_, ⟨p, q, s, t, u, rfl, h1, h2⟩, h3, h4⟩
section
variable {a b : Array Value} {X Y : FK} (w : World)
theorem addA (ha : EA a X) (hb : EA b Y) : Calls Tryz.prog 90 #[.agg a, .agg b] w (ResE w (X + Y)) := by
 obtain ⟨_, _, _, _, _, rfl, h1, h2⟩ := ha.ex
 obtain ⟨_, _, _, _, _, rfl, h3, h4⟩ := hb.ex
 exact (addE h1 h2 h3 h4).mono fun _ _ h => res_of h
theorem subA (ha : EA a X) (hb : EA b Y) : Calls Tryz.prog 88 #[.agg a, .agg b] w (ResE w (X - Y)) := by
 obtain ⟨_, _, _, _, _, rfl, h1, h2⟩ := ha.ex
 obtain ⟨_, _, _, _, _, rfl, h3, h4⟩ := hb.ex
 exact (subE h1 h2 h3 h4).mono fun _ _ h => res_of h
theorem mulA (ha : EA a X) (hb : EA b Y) : Calls Tryz.prog 83 #[.agg a, .agg b] w (ResE w (X * Y)) := by
 obtain ⟨_, _, _, _, _, rfl, h1, h2⟩ := ha.ex
 obtain ⟨_, _, _, _, _, rfl, h3, h4⟩ := hb.ex
 exact (mulE h1 h2 h3 h4).mono fun _ _ h => res_of h
theorem negA (ha : EA a X) : Calls Tryz.prog 91 #[.agg a] w (ResE w (-X)) := by
 obtain ⟨_, _, _, _, _, rfl, h1, h2⟩ := ha.ex
 exact (negE h1 h2).mono fun _ _ h => res_of h
theorem invA (ha : EA a X) : Calls Tryz.prog 82 #[.agg a] w (ResE w (finv X)) := by
 obtain ⟨_, _, _, _, _, rfl, h1, h2⟩ := ha.ex
 exact (invE h1 h2).mono fun _ _ h => res_of h
theorem sameA (ha : EA a X) (hb : EA b Y) : Calls Tryz.prog 128 #[.agg a, .agg b] w fun e w' => e = .returned (.bool (decide (X = Y))) ∧ Below w.heap.size w w' := by
 obtain ⟨_, _, _, _, _, rfl, h1, h2⟩ := ha.ex
 obtain ⟨_, _, _, _, _, rfl, h3, h4⟩ := hb.ex
 have e : decide (X = Y) = decide (X.val = Y.val) := by
  by_cases h : X = Y
  ·rw [decide_eq_true h, decide_eq_true (congrArg _ h)]
  ·rw [decide_eq_false h, decide_eq_false fun e => h (Fin.ext e)]
 rw [e]
 exact sameE h1 h2 h3 h4
theorem zeroA (ha : EA a X) : Calls Tryz.prog 121 #[.agg a] w fun e w' => e = .returned (.bool (decide (X = 0))) ∧ Below w.heap.size w w' := by
 obtain ⟨_, _, _, _, _, rfl, h1, h2⟩ := ha.ex
 have e : decide (X = 0) = decide (X.val = 0) := by
  by_cases h : X = 0
  ·rw [decide_eq_true h, decide_eq_true (by rw [h, fzero_val])]
  ·rw [decide_eq_false h, decide_eq_false fun e => h (Fin.ext (e.trans fzero_val.symm))]
 rw [e]
 exact zeroE h1 h2
theorem oddA (ha : EA a X) : Calls Tryz.prog 85 #[.agg a] w fun e w' => e = .returned (.bool (decide (X.val % 2 = 1))) ∧ Below w.heap.size w w' := by
 obtain ⟨_, _, _, _, _, rfl, h1, h2⟩ := ha.ex
 exact oddE h1 h2
theorem bytesA (ha : EA a X) : Calls Tryz.prog 84 #[.agg a] w (ResB 5 w (leB 32 X.val)) := by
 obtain ⟨_, _, _, _, _, rfl, h1, h2⟩ := ha.ex
 rw [← h1]
 exact bytes_walk _ _ _ _ _ w (red_low h2)
theorem small1A : Calls Tryz.prog 89 #[.int .u32 1] w (ResE w 1) := (small1 w).mono fun _ _ h => res_of h
theorem small_is (n : Nat) (m : Int) (hm : (n : Int) = m) (w : World) (h : n < 4294967296) : Calls Tryz.prog 89 #[.int .u32 m] w fun r w' => ∃ p q s t u : Nat, ev [p, q, s, t, u] = n ∧ Red [p, q, s, t, u] ∧ r = .returned (.agg #[.int .u64 (p : Int), .int .u64 (q : Int), .int .u64 (s : Int), .int .u64 (t : Int), .int .u64 (u : Int)]) ∧ Below w.heap.size w w' := by
 subst hm
 exact smallE n w h
theorem toF_two : (toF 2).val = 2 := Nat.mod_eq_of_lt (by have := Pq_256.2; omega)
theorem small2A : Calls Tryz.prog 89 #[.int .u32 2] w (ResE w (toF 2)) := by
 have h := small_is 2 2 rfl w (by decide)
 exact h.mono fun e w' ⟨p, q, s, t, u, h1, h2, h3, h4⟩ => res_of ⟨p, q, s, t, u, h1.trans toF_two.symm, h2, h3, h4⟩
theorem fromA {A : Option Addr} {n c : Nat} {l : List UInt8} (hl : l.length = n) (hn : n ≤ 1000) (hr : Rd w (.slice A n c) 1 n (bvs l)) : Calls Tryz.prog 86 #[.slice A n c] w (ResE w (fbytes l)) :=
 (fromE hl hn hr).mono fun _ _ h => res_of h
theorem pexp1 : pexp 252 2 252 = 2 ^ 252 - 3 := by decide +kernel
theorem pexp2 : pexp 253 4 253 = 2 ^ 253 - 5 := by decide +kernel
theorem powA1 (ha : EA a X) : Calls Tryz.prog 122 #[.agg a, .int .i64 252, .int .u64 2] w (ResE w (fpow X (2 ^ 252 - 3))) := by
 obtain ⟨_, _, _, _, _, rfl, h1, h2⟩ := ha.ex
 have h := power_walk _ _ _ _ _ 252 2 w h2 (by decide) (by decide) (by decide)
 simp only [pexp1, h1, ← fpow_val] at h
 exact h.mono fun _ _ h => res_of h
theorem powA2 (ha : EA a X) : Calls Tryz.prog 122 #[.agg a, .int .i64 253, .int .u64 4] w (ResE w (fpow X (2 ^ 253 - 5))) := by
 obtain ⟨_, _, _, _, _, rfl, h1, h2⟩ := ha.ex
 have h := power_walk _ _ _ _ _ 253 4 w h2 (by decide) (by decide) (by decide)
 simp only [pexp2, h1, ← fpow_val] at h
 exact h.mono fun _ _ h => res_of h
theorem two_root : fpow (toF 2) (2 ^ 253 - 5) = iF := Fin.ext (by
 refine fpow_pm (toF 2) _ 256 _ (by decide) ?_
 rw [toF_two]
 show _ = iN
 unfold Pq iN
 decide +kernel)
theorem ea_zero : EA #[.int .u64 0, .int .u64 0, .int .u64 0, .int .u64 0, .int .u64 0] 0 := ⟨0, 0, 0, 0, 0, rfl, by rw [fzero_val]; unfold ev fv fv fv fv fv fv; simp, ⟨rfl, fun k x hx => by
 have hx0 : x = 0 := by
  have := List.mem_of_getElem? hx
  simpa using this
 subst hx0
 unfold T51
 omega⟩⟩
def lD : List Nat := [163, 120, 89, 19, 202, 77, 235, 117, 171, 216, 65, 65, 77, 10, 112, 0, 152, 232, 121, 119, 121, 64, 199, 140, 115, 254, 111, 43, 238, 108, 3, 82]
theorem nD_text : strOf (hexT lD) = ⟨#[53, 50, 48, 51, 54, 99, 101, 101, 50, 98, 54, 102, 102, 101, 55, 51, 56, 99, 99, 55, 52, 48, 55, 57, 55, 55, 55, 57, 101, 56, 57, 56, 48, 48, 55, 48, 48, 97, 52, 100, 52, 49, 52, 49, 100, 56, 97, 98, 55, 53, 101, 98, 52, 100, 99, 97, 49, 51, 53, 57, 55, 56, 97, 51]⟩ := by rw [strOf_eq]; rfl
theorem nD_val : fbytes (byL lD) = dF := Fin.ext (by decide +kernel)
theorem numD : Calls Tryz.prog 78 #[.string ⟨#[53, 50, 48, 51, 54, 99, 101, 101, 50, 98, 54, 102, 102, 101, 55, 51, 56, 99, 99, 55, 52, 48, 55, 57, 55, 55, 55, 57, 101, 56, 57, 56, 48, 48, 55, 48, 48, 97, 52, 100, 52, 49, 52, 49, 100, 56, 97, 98, 55, 53, 101, 98, 52, 100, 99, 97, 49, 51, 53, 57, 55, 56, 97, 51]⟩] w (ResE w (dF)) := by
 have h := number_any lD (by decide) (by decide) w
 rw [nD_text, nD_val] at h
 exact h.mono fun _ _ h => res_of h
def lX : List Nat := [26, 213, 37, 143, 96, 45, 86, 201, 178, 167, 37, 149, 96, 199, 44, 105, 92, 220, 214, 253, 49, 226, 164, 192, 254, 83, 110, 205, 211, 54, 105, 33]
theorem nX_text : strOf (hexT lX) = ⟨#[50, 49, 54, 57, 51, 54, 100, 51, 99, 100, 54, 101, 53, 51, 102, 101, 99, 48, 97, 52, 101, 50, 51, 49, 102, 100, 100, 54, 100, 99, 53, 99, 54, 57, 50, 99, 99, 55, 54, 48, 57, 53, 50, 53, 97, 55, 98, 50, 99, 57, 53, 54, 50, 100, 54, 48, 56, 102, 50, 53, 100, 53, 49, 97]⟩ := by rw [strOf_eq]; rfl
theorem nX_val : fbytes (byL lX) = toF bxV := Fin.ext (by decide +kernel)
theorem numX : Calls Tryz.prog 78 #[.string ⟨#[50, 49, 54, 57, 51, 54, 100, 51, 99, 100, 54, 101, 53, 51, 102, 101, 99, 48, 97, 52, 101, 50, 51, 49, 102, 100, 100, 54, 100, 99, 53, 99, 54, 57, 50, 99, 99, 55, 54, 48, 57, 53, 50, 53, 97, 55, 98, 50, 99, 57, 53, 54, 50, 100, 54, 48, 56, 102, 50, 53, 100, 53, 49, 97]⟩] w (ResE w (toF bxV)) := by
 have h := number_any lX (by decide) (by decide) w
 rw [nX_text, nX_val] at h
 exact h.mono fun _ _ h => res_of h
def lY : List Nat := [88, 102, 102, 102, 102, 102, 102, 102, 102, 102, 102, 102, 102, 102, 102, 102, 102, 102, 102, 102, 102, 102, 102, 102, 102, 102, 102, 102, 102, 102, 102, 102]
theorem nY_text : strOf (hexT lY) = ⟨#[54, 54, 54, 54, 54, 54, 54, 54, 54, 54, 54, 54, 54, 54, 54, 54, 54, 54, 54, 54, 54, 54, 54, 54, 54, 54, 54, 54, 54, 54, 54, 54, 54, 54, 54, 54, 54, 54, 54, 54, 54, 54, 54, 54, 54, 54, 54, 54, 54, 54, 54, 54, 54, 54, 54, 54, 54, 54, 54, 54, 54, 54, 53, 56]⟩ := by rw [strOf_eq]; rfl
theorem nY_val : fbytes (byL lY) = toF byV := Fin.ext (by decide +kernel)
theorem numY : Calls Tryz.prog 78 #[.string ⟨#[54, 54, 54, 54, 54, 54, 54, 54, 54, 54, 54, 54, 54, 54, 54, 54, 54, 54, 54, 54, 54, 54, 54, 54, 54, 54, 54, 54, 54, 54, 54, 54, 54, 54, 54, 54, 54, 54, 54, 54, 54, 54, 54, 54, 54, 54, 54, 54, 54, 54, 54, 54, 54, 54, 54, 54, 54, 54, 54, 54, 54, 54, 53, 56]⟩] w (ResE w (toF byV)) := by
 have h := number_any lY (by decide) (by decide) w
 rw [nY_text, nY_val] at h
 exact h.mono fun _ _ h => res_of h

end
end Go.Proofs.YtnohmgpmmhlloaaGreatDoor

namespace Go.Proofs.YtnohmgpmmhlloaaGreatDoor
open Go.RowKit
set_option linter.unusedSimpArgs false

def zE : Array Value := #[.int .u64 0, .int .u64 0, .int .u64 0, .int .u64 0, .int .u64 0]
def zP : Array Value := #[.int .u64 0, .int .u64 0, .int .u64 0, .int .u64 0, .int .u64 0, .int .u64 0, .int .u64 0, .int .u64 0, .int .u64 0, .int .u64 0, .int .u64 0, .int .u64 0, .int .u64 0, .int .u64 0, .int .u64 0, .int .u64 0, .int .u64 0, .int .u64 0, .int .u64 0, .int .u64 0]
def zN : Array Value := (ivs (List.replicate 16 0)).toArray
def zQ : Array Value := (ivs (List.replicate 64 0)).toArray
theorem rowE : RowOf Tryz.prog 61 5 := ⟨⟨_, Tryz.underlying61, rfl⟩, by kernel_rfl⟩
theorem rowP : RowOf Tryz.prog 63 20 := ⟨⟨_, Tryz.underlying63, rfl⟩, by kernel_rfl⟩
theorem rowN : RowOf Tryz.prog 130 16 := ⟨⟨_, Tryz.underlying130, rfl⟩, by kernel_rfl⟩
theorem rowQ : RowOf Tryz.prog 132 64 := ⟨⟨_, Tryz.underlying132, rfl⟩, by kernel_rfl⟩
theorem newE : NewOf Tryz.prog 61 zE := fun x => by kernel_rfl
theorem newP : NewOf Tryz.prog 63 zP := fun x => by kernel_rfl
theorem newN : NewOf Tryz.prog 130 zN := fun x => by kernel_rfl
theorem newQ : NewOf Tryz.prog 132 zQ := fun x => by kernel_rfl
theorem arr_zE : Arr 5 zE := ⟨rfl, by kernel_rfl⟩
theorem arr_zP : Arr 20 zP := ⟨rfl, by kernel_rfl⟩
theorem arr_zN : Arr 16 zN := ⟨by kernel_rfl, by kernel_rfl⟩
theorem arr_zQ : Arr 64 zQ := ⟨by kernel_rfl, by kernel_rfl⟩
theorem qE {a b c d : Array Value} {X Y Z T : FK} (h1 : EA a X) (h2 : EA b Y) (h3 : EA c Z) (h4 : EA d T) : Arr 20 (quad a b c d) := quad_arr h1.arr h2.arr h3.arr h4.arr rfl
theorem qN {a b c d : Array Value} {X Y Z T : FK} (h1 : NA a X) (h2 : NA b Y) (h3 : NA c Z) (h4 : NA d T) : Arr 64 (quad a b c d) := quad_arr h1.arr h2.arr h3.arr h4.arr rfl
theorem ea_zE : EA zE 0 := ea_zero
theorem exE {a : Array Value} {X : FK} (h : EA a X) : ∃ X, EA a X := ⟨_, h⟩
theorem exN {a : Array Value} {X : FK} (h : NA a X) : ∃ X, NA a X := ⟨_, h⟩
theorem buildQ0 (a0 a1 a2 a3 a4 a5 a6 a7 a8 a9 a10 a11 a12 a13 a14 a15 b0 b1 b2 b3 b4 b5 b6 b7 b8 b9 b10 b11 b12 b13 b14 b15 c0 c1 c2 c3 c4 c5 c6 c7 c8 c9 c10 c11 c12 c13 c14 c15 d0 d1 d2 d3 d4 d5 d6 d7 d8 d9 d10 d11 d12 d13 d14 d15 : Value) : (Tryz.prog.built 132 [(0, .agg #[a0, a1, a2, a3, a4, a5, a6, a7, a8, a9, a10, a11, a12, a13, a14, a15]), (1, .agg #[b0, b1, b2, b3, b4, b5, b6, b7, b8, b9, b10, b11, b12, b13, b14, b15]), (2, .agg #[c0, c1, c2, c3, c4, c5, c6, c7, c8, c9, c10, c11, c12, c13, c14, c15]), (3, .agg #[d0, d1, d2, d3, d4, d5, d6, d7, d8, d9, d10, d11, d12, d13, d14, d15])]) = some (quad #[a0, a1, a2, a3, a4, a5, a6, a7, a8, a9, a10, a11, a12, a13, a14, a15] #[b0, b1, b2, b3, b4, b5, b6, b7, b8, b9, b10, b11, b12, b13, b14, b15] #[c0, c1, c2, c3, c4, c5, c6, c7, c8, c9, c10, c11, c12, c13, c14, c15] #[d0, d1, d2, d3, d4, d5, d6, d7, d8, d9, d10, d11, d12, d13, d14, d15]) := by kernel_rfl
theorem arr16 {a : Array Value} (h : a.size = 16) : ∃ a0 a1 a2 a3 a4 a5 a6 a7 a8 a9 a10 a11 a12 a13 a14 a15 : Value, a = #[a0, a1, a2, a3, a4, a5, a6, a7, a8, a9, a10, a11, a12, a13, a14, a15] := by
 obtain ⟨l⟩ := a
 match l, h with
 | [a0, a1, a2, a3, a4, a5, a6, a7, a8, a9, a10, a11, a12, a13, a14, a15], _ => exact ⟨a0, a1, a2, a3, a4, a5, a6, a7, a8, a9, a10, a11, a12, a13, a14, a15, rfl⟩
theorem buildQ : BuildOf Tryz.prog 132 (fun a => ∃ X, NA a X) := fun a b c d ha hb hc hd => by
 obtain ⟨_, ha⟩ := ha
 obtain ⟨_, hb⟩ := hb
 obtain ⟨_, hc⟩ := hc
 obtain ⟨_, hd⟩ := hd
 obtain ⟨a0, a1, a2, a3, a4, a5, a6, a7, a8, a9, a10, a11, a12, a13, a14, a15, rfl⟩ := arr16 ha.arr.size
 obtain ⟨b0, b1, b2, b3, b4, b5, b6, b7, b8, b9, b10, b11, b12, b13, b14, b15, rfl⟩ := arr16 hb.arr.size
 obtain ⟨c0, c1, c2, c3, c4, c5, c6, c7, c8, c9, c10, c11, c12, c13, c14, c15, rfl⟩ := arr16 hc.arr.size
 obtain ⟨d0, d1, d2, d3, d4, d5, d6, d7, d8, d9, d10, d11, d12, d13, d14, d15, rfl⟩ := arr16 hd.arr.size
 exact buildQ0 _ _ _ _ _ _ _ _ _ _ _ _ _ _ _ _ _ _ _ _ _ _ _ _ _ _ _ _ _ _ _ _ _ _ _ _ _ _ _ _ _ _ _ _ _ _ _ _ _ _ _ _ _ _ _ _ _ _ _ _ _ _ _ _
theorem buildP : BuildOf Tryz.prog 63 (fun a => ∃ X, EA a X) := fun a b c d ha hb hc hd => by
 obtain ⟨_, ha⟩ := ha
 obtain ⟨_, hb⟩ := hb
 obtain ⟨_, hc⟩ := hc
 obtain ⟨_, hd⟩ := hd
 obtain ⟨_, _, _, _, _, rfl, _, _⟩ := ha.ex
 obtain ⟨_, _, _, _, _, rfl, _, _⟩ := hb.ex
 obtain ⟨_, _, _, _, _, rfl, _, _⟩ := hc.ex
 obtain ⟨_, _, _, _, _, rfl, _, _⟩ := hd.ex
 kernel_rfl
def ResP (w : World) (A : Pj) (e : Ending) (w' : World) : Prop := ∃ a b c d, EA a A.X ∧ EA b A.Y ∧ EA c A.Z ∧ EA d A.T ∧ e = .returned (.agg (quad a b c d)) ∧ Below w.heap.size w w'
theorem at_any {a b : Array Value} {X Y : FK} (w : World) (hea : EA a X) (heb : EA b Y) : Calls Tryz.prog 77 #[.agg a, .agg b] w (ResP w ⟨X, Y, 1, X * Y⟩) := by
 have HS := hide (St.init w NoB)
 go_enter Tryz.func77, Tryz.ntmps77
 go_wp2_with (first | (refine wl_loadP rfl rfl rfl HS.out (by (repeat first | exact .head _ | apply List.Mem.tail)) (by first | exact rowE | exact rowP | exact rowN | exact rowQ) (by (first | exact .q0 (EA.arr ‹_›) | exact .q1 (EA.arr ‹_›) (EA.arr ‹_›) | exact .q2 (EA.arr ‹_›) (EA.arr ‹_›) (EA.arr ‹_›) | exact .q3 (EA.arr ‹_›) (EA.arr ‹_›) (EA.arr ‹_›) (EA.arr ‹_›) | exact .q0 (NA.arr ‹_›) | exact .q1 (NA.arr ‹_›) (NA.arr ‹_›) | exact .q2 (NA.arr ‹_›) (NA.arr ‹_›) (NA.arr ‹_›) | exact .q3 (NA.arr ‹_›) (NA.arr ‹_›) (NA.arr ‹_›) (NA.arr ‹_›) | exact .all (by (first | exact EA.arr ‹_› | exact NA.arr ‹_› | exact arr_zE | exact arr_zN | exact arr_zP | exact arr_zQ | exact PtN.arr ‹_› | exact PtV.arr ‹_› | exact QtN.arr ‹_› | exact qE ‹_› ‹_› ‹_› ‹_› | exact qN ‹_› ‹_› ‹_› ‹_›)))) ?_; (try simp only [Act.put, nq1, nq2, nq3, nq4, nq5, nq6])) | (refine wl_storeR rfl rfl rfl rfl HS.out (by first | exact rowE | exact rowP | exact rowN | exact rowQ) (by (repeat first | exact .head | apply Upd.tail)) (by (first | exact EA.arr ‹_› | exact NA.arr ‹_› | exact arr_zE | exact arr_zN | exact arr_zP | exact arr_zQ | exact PtN.arr ‹_› | exact PtV.arr ‹_› | exact QtN.arr ‹_› | exact qE ‹_› ‹_› ‹_› ‹_› | exact qN ‹_› ‹_› ‹_› ‹_›)) (by (first | exact EA.arr ‹_› | exact NA.arr ‹_› | exact arr_zE | exact arr_zN | exact arr_zP | exact arr_zQ | exact PtN.arr ‹_› | exact PtV.arr ‹_› | exact QtN.arr ‹_› | exact qE ‹_› ‹_› ‹_› ‹_› | exact qN ‹_› ‹_› ‹_› ‹_›)) ?_; intro wz hS9; have HS := hide hS9; clear hS9; (try simp only [Act.put, nq1, nq2, nq3, nq4, nq5, nq6])) | (refine wl_allocR rfl rfl HS.out (by first | exact newE | exact newP | exact newN | exact newQ) ?_; intro gz wz hS9; have HS := hide hS9; clear hS9; (try simp only [Act.put, nq1, nq2, nq3, nq4, nq5, nq6])) | (refine wl_boxR rfl rfl rfl HS.out ?_; intro gz wz hS9; have HS := hide hS9; clear hS9; (try simp only [Act.put, nq1, nq2, nq3, nq4, nq5, nq6])) | (refine wpT_loadP rfl rfl rfl rfl HS.out (by (repeat first | exact .head _ | apply List.Mem.tail)) (by first | exact rowE | exact rowP | exact rowN | exact rowQ) (by (first | exact .q0 (EA.arr ‹_›) | exact .q1 (EA.arr ‹_›) (EA.arr ‹_›) | exact .q2 (EA.arr ‹_›) (EA.arr ‹_›) (EA.arr ‹_›) | exact .q3 (EA.arr ‹_›) (EA.arr ‹_›) (EA.arr ‹_›) (EA.arr ‹_›) | exact .q0 (NA.arr ‹_›) | exact .q1 (NA.arr ‹_›) (NA.arr ‹_›) | exact .q2 (NA.arr ‹_›) (NA.arr ‹_›) (NA.arr ‹_›) | exact .q3 (NA.arr ‹_›) (NA.arr ‹_›) (NA.arr ‹_›) (NA.arr ‹_›) | exact .all (by (first | exact EA.arr ‹_› | exact NA.arr ‹_› | exact arr_zE | exact arr_zN | exact arr_zP | exact arr_zQ | exact PtN.arr ‹_› | exact PtV.arr ‹_› | exact QtN.arr ‹_› | exact qE ‹_› ‹_› ‹_› ‹_› | exact qN ‹_› ‹_› ‹_› ‹_›)))) ?_; (try simp only [Act.put, nq1, nq2, nq3, nq4, nq5, nq6])) | (refine wpT_pure rfl rfl (fun x => run_build4 rfl rfl rfl rfl rfl buildP (exE (by assumption)) (exE (by assumption)) (exE (by assumption)) (exE (by assumption)) x) ?_; (try simp only [Act.put, nq1, nq2, nq3, nq4, nq5, nq6])) | (refine wpT_pure rfl rfl (fun x => run_build4 rfl rfl rfl rfl rfl buildQ (exN (by assumption)) (exN (by assumption)) (exN (by assumption)) (exN (by assumption)) x) ?_; (try simp only [Act.put, nq1, nq2, nq3, nq4, nq5, nq6])) | (refine wpT_late rfl rfl ?_; intro K hK; refine wp_storeR rfl rfl rfl HS.out (by first | exact rowE | exact rowP | exact rowN | exact rowQ) (by (repeat first | exact .head | apply Upd.tail)) (by (first | exact EA.arr ‹_› | exact NA.arr ‹_› | exact arr_zE | exact arr_zN | exact arr_zP | exact arr_zQ | exact PtN.arr ‹_› | exact PtV.arr ‹_› | exact QtN.arr ‹_› | exact qE ‹_› ‹_› ‹_› ‹_› | exact qN ‹_› ‹_› ‹_› ‹_›)) (by (first | exact EA.arr ‹_› | exact NA.arr ‹_› | exact arr_zE | exact arr_zN | exact arr_zP | exact arr_zQ | exact PtN.arr ‹_› | exact PtV.arr ‹_› | exact QtN.arr ‹_› | exact qE ‹_› ‹_› ‹_› ‹_› | exact qN ‹_› ‹_› ‹_› ‹_›)) ?_; intro wz hS9; have HS := hide hS9; clear hS9) | (refine wpT_any rfl rfl ?_; intro K hK; refine wp_storeR rfl rfl rfl HS.out (by first | exact rowE | exact rowP | exact rowN | exact rowQ) (by (repeat first | exact .head | apply Upd.tail)) (by (first | exact EA.arr ‹_› | exact NA.arr ‹_› | exact arr_zE | exact arr_zN | exact arr_zP | exact arr_zQ | exact PtN.arr ‹_› | exact PtV.arr ‹_› | exact QtN.arr ‹_› | exact qE ‹_› ‹_› ‹_› ‹_› | exact qN ‹_› ‹_› ‹_› ‹_›)) (by (first | exact EA.arr ‹_› | exact NA.arr ‹_› | exact arr_zE | exact arr_zN | exact arr_zP | exact arr_zQ | exact PtN.arr ‹_› | exact PtV.arr ‹_› | exact QtN.arr ‹_› | exact qE ‹_› ‹_› ‹_› ‹_› | exact qN ‹_› ‹_› ‹_› ‹_›)) ?_; intro wz hS9; have HS := hide hS9; clear hS9) | (refine wpX_loadP rfl rfl rfl rfl HS.out (by (repeat first | exact .head _ | apply List.Mem.tail)) (by first | exact rowE | exact rowP | exact rowN | exact rowQ) (by (first | exact .q0 (EA.arr ‹_›) | exact .q1 (EA.arr ‹_›) (EA.arr ‹_›) | exact .q2 (EA.arr ‹_›) (EA.arr ‹_›) (EA.arr ‹_›) | exact .q3 (EA.arr ‹_›) (EA.arr ‹_›) (EA.arr ‹_›) (EA.arr ‹_›) | exact .q0 (NA.arr ‹_›) | exact .q1 (NA.arr ‹_›) (NA.arr ‹_›) | exact .q2 (NA.arr ‹_›) (NA.arr ‹_›) (NA.arr ‹_›) | exact .q3 (NA.arr ‹_›) (NA.arr ‹_›) (NA.arr ‹_›) (NA.arr ‹_›) | exact .all (by (first | exact EA.arr ‹_› | exact NA.arr ‹_› | exact arr_zE | exact arr_zN | exact arr_zP | exact arr_zQ | exact PtN.arr ‹_› | exact PtV.arr ‹_› | exact QtN.arr ‹_› | exact qE ‹_› ‹_› ‹_› ‹_› | exact qN ‹_› ‹_› ‹_› ‹_›)))) ?_; (try simp only [Act.put, nq1, nq2, nq3, nq4, nq5, nq6])) | (refine wpX_pure rfl rfl (fun x => run_build4 rfl rfl rfl rfl rfl buildP (exE (by assumption)) (exE (by assumption)) (exE (by assumption)) (exE (by assumption)) x) ?_; (try simp only [Act.put, nq1, nq2, nq3, nq4, nq5, nq6])) | (refine wpX_pure rfl rfl (fun x => run_build4 rfl rfl rfl rfl rfl buildQ (exN (by assumption)) (exN (by assumption)) (exN (by assumption)) (exN (by assumption)) x) ?_; (try simp only [Act.put, nq1, nq2, nq3, nq4, nq5, nq6])) | (refine wpX_nil ?_; intro G xz hx0 hx hF; have hS9 := HS.out.floats hx0 hF _ (by decide) (fun _ h => h); simp only [List.map_cons, List.map_nil, List.cons_append, List.nil_append] at hS9; have HS := hide hS9; clear hS9 hF hx0 hx; simp only [putsE, List.foldl_cons, List.foldl_nil]; (try simp only [Act.put, nq1, nq2, nq3, nq4, nq5, nq6])) | (refine wpX_pure (v := ?_) rfl rfl ?_ ?_; rotate_left; (intro wx; go_simp; try go_bits) <;> (with_reducible rfl); (try simp only [Act.put, nq1, nq2, nq3, nq4, nq5, nq6])) | (refine wpX_call rfl rfl ?_; intro xc hxc K hK) | (refine wpX_skip rfl rfl ?_; (try simp only [Act.put, nq1, nq2, nq3, nq4, nq5, nq6])))
 have HS := hide HS.out.drew
 refine wp_region_T [(0, 0), (1, 0), (3, 0), (4, 0), (2, 2), (5, 2), (6, 1), (7, 3)] (by kernel_rfl) (by kernel_rfl) (fun _ _ _ _ h => h) ?_
 go_wp2_with (first | (go_at_call 89; (with_reducible refine (small1A _).mono ?_); rintro e wy ⟨z, hz, rfl, hb⟩; try have HS := hide (HS.out.call hb)) | (go_at_call 83; (with_reducible refine (mulA _ (by assumption) (by assumption)).mono ?_); rintro e wy ⟨z, hz, rfl, hb⟩; try have HS := hide (HS.out.call hb)) | (go_at_call 90; (with_reducible refine (addA _ (by assumption) (by assumption)).mono ?_); rintro e wy ⟨z, hz, rfl, hb⟩; try have HS := hide (HS.out.call hb)) | (go_at_call 88; (with_reducible refine (subA _ (by assumption) (by assumption)).mono ?_); rintro e wy ⟨z, hz, rfl, hb⟩; try have HS := hide (HS.out.call hb)) | (go_at_call 91; (with_reducible refine (negA _ (by assumption)).mono ?_); rintro e wy ⟨z, hz, rfl, hb⟩; try have HS := hide (HS.out.call hb)) | (go_at_call 82; (with_reducible refine (invA _ (by assumption)).mono ?_); rintro e wy ⟨z, hz, rfl, hb⟩; try have HS := hide (HS.out.call hb)) | (refine wl_loadP rfl rfl rfl HS.out (by (repeat first | exact .head _ | apply List.Mem.tail)) (by first | exact rowE | exact rowP | exact rowN | exact rowQ) (by (first | exact .q0 (EA.arr ‹_›) | exact .q1 (EA.arr ‹_›) (EA.arr ‹_›) | exact .q2 (EA.arr ‹_›) (EA.arr ‹_›) (EA.arr ‹_›) | exact .q3 (EA.arr ‹_›) (EA.arr ‹_›) (EA.arr ‹_›) (EA.arr ‹_›) | exact .q0 (NA.arr ‹_›) | exact .q1 (NA.arr ‹_›) (NA.arr ‹_›) | exact .q2 (NA.arr ‹_›) (NA.arr ‹_›) (NA.arr ‹_›) | exact .q3 (NA.arr ‹_›) (NA.arr ‹_›) (NA.arr ‹_›) (NA.arr ‹_›) | exact .all (by (first | exact EA.arr ‹_› | exact NA.arr ‹_› | exact arr_zE | exact arr_zN | exact arr_zP | exact arr_zQ | exact PtN.arr ‹_› | exact PtV.arr ‹_› | exact QtN.arr ‹_› | exact qE ‹_› ‹_› ‹_› ‹_› | exact qN ‹_› ‹_› ‹_› ‹_›)))) ?_; (try simp only [Act.put, nq1, nq2, nq3, nq4, nq5, nq6])) | (refine wl_storeR rfl rfl rfl rfl HS.out (by first | exact rowE | exact rowP | exact rowN | exact rowQ) (by (repeat first | exact .head | apply Upd.tail)) (by (first | exact EA.arr ‹_› | exact NA.arr ‹_› | exact arr_zE | exact arr_zN | exact arr_zP | exact arr_zQ | exact PtN.arr ‹_› | exact PtV.arr ‹_› | exact QtN.arr ‹_› | exact qE ‹_› ‹_› ‹_› ‹_› | exact qN ‹_› ‹_› ‹_› ‹_›)) (by (first | exact EA.arr ‹_› | exact NA.arr ‹_› | exact arr_zE | exact arr_zN | exact arr_zP | exact arr_zQ | exact PtN.arr ‹_› | exact PtV.arr ‹_› | exact QtN.arr ‹_› | exact qE ‹_› ‹_› ‹_› ‹_› | exact qN ‹_› ‹_› ‹_› ‹_›)) ?_; intro wz hS9; have HS := hide hS9; clear hS9; (try simp only [Act.put, nq1, nq2, nq3, nq4, nq5, nq6])) | (refine wl_allocR rfl rfl HS.out (by first | exact newE | exact newP | exact newN | exact newQ) ?_; intro gz wz hS9; have HS := hide hS9; clear hS9; (try simp only [Act.put, nq1, nq2, nq3, nq4, nq5, nq6])) | (refine wl_boxR rfl rfl rfl HS.out ?_; intro gz wz hS9; have HS := hide hS9; clear hS9; (try simp only [Act.put, nq1, nq2, nq3, nq4, nq5, nq6])) | (refine wpT_loadP rfl rfl rfl rfl HS.out (by (repeat first | exact .head _ | apply List.Mem.tail)) (by first | exact rowE | exact rowP | exact rowN | exact rowQ) (by (first | exact .q0 (EA.arr ‹_›) | exact .q1 (EA.arr ‹_›) (EA.arr ‹_›) | exact .q2 (EA.arr ‹_›) (EA.arr ‹_›) (EA.arr ‹_›) | exact .q3 (EA.arr ‹_›) (EA.arr ‹_›) (EA.arr ‹_›) (EA.arr ‹_›) | exact .q0 (NA.arr ‹_›) | exact .q1 (NA.arr ‹_›) (NA.arr ‹_›) | exact .q2 (NA.arr ‹_›) (NA.arr ‹_›) (NA.arr ‹_›) | exact .q3 (NA.arr ‹_›) (NA.arr ‹_›) (NA.arr ‹_›) (NA.arr ‹_›) | exact .all (by (first | exact EA.arr ‹_› | exact NA.arr ‹_› | exact arr_zE | exact arr_zN | exact arr_zP | exact arr_zQ | exact PtN.arr ‹_› | exact PtV.arr ‹_› | exact QtN.arr ‹_› | exact qE ‹_› ‹_› ‹_› ‹_› | exact qN ‹_› ‹_› ‹_› ‹_›)))) ?_; (try simp only [Act.put, nq1, nq2, nq3, nq4, nq5, nq6])) | (refine wpT_pure rfl rfl (fun x => run_build4 rfl rfl rfl rfl rfl buildP (exE (by assumption)) (exE (by assumption)) (exE (by assumption)) (exE (by assumption)) x) ?_; (try simp only [Act.put, nq1, nq2, nq3, nq4, nq5, nq6])) | (refine wpT_pure rfl rfl (fun x => run_build4 rfl rfl rfl rfl rfl buildQ (exN (by assumption)) (exN (by assumption)) (exN (by assumption)) (exN (by assumption)) x) ?_; (try simp only [Act.put, nq1, nq2, nq3, nq4, nq5, nq6])) | (refine wpT_late rfl rfl ?_; intro K hK; refine wp_storeR rfl rfl rfl HS.out (by first | exact rowE | exact rowP | exact rowN | exact rowQ) (by (repeat first | exact .head | apply Upd.tail)) (by (first | exact EA.arr ‹_› | exact NA.arr ‹_› | exact arr_zE | exact arr_zN | exact arr_zP | exact arr_zQ | exact PtN.arr ‹_› | exact PtV.arr ‹_› | exact QtN.arr ‹_› | exact qE ‹_› ‹_› ‹_› ‹_› | exact qN ‹_› ‹_› ‹_› ‹_›)) (by (first | exact EA.arr ‹_› | exact NA.arr ‹_› | exact arr_zE | exact arr_zN | exact arr_zP | exact arr_zQ | exact PtN.arr ‹_› | exact PtV.arr ‹_› | exact QtN.arr ‹_› | exact qE ‹_› ‹_› ‹_› ‹_› | exact qN ‹_› ‹_› ‹_› ‹_›)) ?_; intro wz hS9; have HS := hide hS9; clear hS9) | (refine wpT_any rfl rfl ?_; intro K hK; refine wp_storeR rfl rfl rfl HS.out (by first | exact rowE | exact rowP | exact rowN | exact rowQ) (by (repeat first | exact .head | apply Upd.tail)) (by (first | exact EA.arr ‹_› | exact NA.arr ‹_› | exact arr_zE | exact arr_zN | exact arr_zP | exact arr_zQ | exact PtN.arr ‹_› | exact PtV.arr ‹_› | exact QtN.arr ‹_› | exact qE ‹_› ‹_› ‹_› ‹_› | exact qN ‹_› ‹_› ‹_› ‹_›)) (by (first | exact EA.arr ‹_› | exact NA.arr ‹_› | exact arr_zE | exact arr_zN | exact arr_zP | exact arr_zQ | exact PtN.arr ‹_› | exact PtV.arr ‹_› | exact QtN.arr ‹_› | exact qE ‹_› ‹_› ‹_› ‹_› | exact qN ‹_› ‹_› ‹_› ‹_›)) ?_; intro wz hS9; have HS := hide hS9; clear hS9) | (refine wpX_loadP rfl rfl rfl rfl HS.out (by (repeat first | exact .head _ | apply List.Mem.tail)) (by first | exact rowE | exact rowP | exact rowN | exact rowQ) (by (first | exact .q0 (EA.arr ‹_›) | exact .q1 (EA.arr ‹_›) (EA.arr ‹_›) | exact .q2 (EA.arr ‹_›) (EA.arr ‹_›) (EA.arr ‹_›) | exact .q3 (EA.arr ‹_›) (EA.arr ‹_›) (EA.arr ‹_›) (EA.arr ‹_›) | exact .q0 (NA.arr ‹_›) | exact .q1 (NA.arr ‹_›) (NA.arr ‹_›) | exact .q2 (NA.arr ‹_›) (NA.arr ‹_›) (NA.arr ‹_›) | exact .q3 (NA.arr ‹_›) (NA.arr ‹_›) (NA.arr ‹_›) (NA.arr ‹_›) | exact .all (by (first | exact EA.arr ‹_› | exact NA.arr ‹_› | exact arr_zE | exact arr_zN | exact arr_zP | exact arr_zQ | exact PtN.arr ‹_› | exact PtV.arr ‹_› | exact QtN.arr ‹_› | exact qE ‹_› ‹_› ‹_› ‹_› | exact qN ‹_› ‹_› ‹_› ‹_›)))) ?_; (try simp only [Act.put, nq1, nq2, nq3, nq4, nq5, nq6])) | (refine wpX_pure rfl rfl (fun x => run_build4 rfl rfl rfl rfl rfl buildP (exE (by assumption)) (exE (by assumption)) (exE (by assumption)) (exE (by assumption)) x) ?_; (try simp only [Act.put, nq1, nq2, nq3, nq4, nq5, nq6])) | (refine wpX_pure rfl rfl (fun x => run_build4 rfl rfl rfl rfl rfl buildQ (exN (by assumption)) (exN (by assumption)) (exN (by assumption)) (exN (by assumption)) x) ?_; (try simp only [Act.put, nq1, nq2, nq3, nq4, nq5, nq6])) | (refine wpX_nil ?_; intro G xz hx0 hx hF; have hS9 := HS.out.floats hx0 hF _ (by decide) (fun _ h => h); simp only [List.map_cons, List.map_nil, List.cons_append, List.nil_append] at hS9; have HS := hide hS9; clear hS9 hF hx0 hx; simp only [putsE, List.foldl_cons, List.foldl_nil]; (try simp only [Act.put, nq1, nq2, nq3, nq4, nq5, nq6])) | (refine wpX_pure (v := ?_) rfl rfl ?_ ?_; rotate_left; (intro wx; go_simp; try go_bits) <;> (with_reducible rfl); (try simp only [Act.put, nq1, nq2, nq3, nq4, nq5, nq6])) | (refine wpX_call rfl rfl ?_; intro xc hxc K hK) | (refine wpX_skip rfl rfl ?_; (try simp only [Act.put, nq1, nq2, nq3, nq4, nq5, nq6])) | (refine wpT_nil ?_)   | ((with_reducible refine fromT_refl ?_); (try simp only [Act.put, nq1, nq2, nq3, nq4, nq5, nq6]))   | ((with_reducible refine fromT_mk (by assumption) ?_); (try simp only [Act.put, nq1, nq2, nq3, nq4, nq5, nq6]))   | (refine wpT_pure (v := ?_) rfl rfl ?_ ?_; rotate_left; (intro wx; go_simp; try go_bits) <;> (with_reducible rfl); (try simp only [Act.put, nq1, nq2, nq3, nq4, nq5, nq6]))   | (refine wpT_load (v := ?_) rfl rfl rfl ?_ ?_; rotate_left; (go_simp; try go_bits) <;> (with_reducible rfl); (try simp only [Act.put, nq1, nq2, nq3, nq4, nq5, nq6]))   | (refine wpT_read (v := ?_) rfl rfl ?_ ?_; rotate_left; (intro wx hx; go_simp; try go_bits) <;> (with_reducible rfl); (try simp only [Act.put, nq1, nq2, nq3, nq4, nq5, nq6]))   | (refine wpT_call rfl rfl ?_; intro K hK)   | (refine wpT_late rfl rfl ?_; intro K hK)   | (refine wpT_any rfl rfl ?_; intro K hK)   | (refine wpT_skip rfl rfl ?_; (try simp only [Act.put, nq1, nq2, nq3, nq4, nq5, nq6])))
 refine bodyPost_ret (results_cell_row rfl _ _ _ _ _ _ _ rfl (HS.out.heapM (by (repeat first | exact .head _ | apply List.Mem.tail))) Tryz.underlying63 rfl (by first | (rw [(EA.arr ‹_›).size]; kernel_rfl) | (rw [(NA.arr ‹_›).size]; kernel_rfl) | (rw [(qE ‹_› ‹_› ‹_› ‹_›).size]; kernel_rfl) | (rw [(qN ‹_› ‹_› ‹_› ‹_›).size]; kernel_rfl) | (rw [(PtN.arr ‹_›).size]; kernel_rfl) | (rw [(PtV.arr ‹_›).size]; kernel_rfl) | (rw [(QtN.arr ‹_›).size]; kernel_rfl))) rfl ?_
 exact ⟨_, _, _, _, hea, heb, by assumption, by assumption, rfl, HS.out.below⟩
end Go.Proofs.YtnohmgpmmhlloaaGreatDoor

namespace Go.Proofs.YtnohmgpmmhlloaaGreatDoor
open Go.RowKit

def packL (P : Ed) : List UInt8 := leB 32 (packN P)
theorem packL_len (P : Ed) : (packL P).length = 32 := leB_len 32 _
theorem packN_lt (P : Ed) : packN P < 256 ^ 32 := by
 unfold packN
 have h1 : P.y.val < Pq := P.y.isLt
 have h2 := pq_255
 have h3 : (256 : Nat) ^ 32 = 2 ^ 255 + 2 ^ 255 := by decide
 rw [h3]
 generalize (2 : Nat) ^ 255 = B at *
 split <;> omega
theorem top_bit (y : Nat) (hy : y < 2 ^ 255) : ∃ (l : List UInt8) (r : Nat), l.length = 31 ∧ r < 128 ∧ leB 32 y = l ++ [UInt8.ofNat r] ∧ leB 32 (y + 2 ^ 255) = l ++ [UInt8.ofNat (r + 128)] := by
 obtain ⟨x, hx⟩ : ∃ x, x = y % 256 ^ 31 := ⟨_, rfl⟩
 obtain ⟨r, hr⟩ : ∃ r, r = y / 256 ^ 31 := ⟨_, rfl⟩
 have hB : (2 : Nat) ^ 255 = 256 ^ 31 * 128 := by decide
 have hx2 : x < 256 ^ 31 := by rw [hx]; exact Nat.mod_lt _ (by decide)
 have e : y = x + 256 ^ 31 * r := by rw [hx, hr, Nat.mod_add_div]
 have hr2 : r < 128 := by
  rw [hr]
  refine Nat.div_lt_of_lt_mul ?_
  rw [← hB]
  exact hy
 refine ⟨leB 31 x, r, leB_len 31 x, hr2, ?_, ?_⟩
 ·rw [e]
  have h := leB_add 31 1 x r hx2
  rw [show (31 + 1 : Nat) = 32 from rfl] at h
  rw [h]
  show _ ++ [UInt8.ofNat (r % 256)] = _
  rw [Nat.mod_eq_of_lt (by omega)]
 ·rw [e, hB, Nat.add_assoc, ← Nat.mul_add]
  have h := leB_add 31 1 x (r + 128) hx2
  rw [show (31 + 1 : Nat) = 32 from rfl] at h
  rw [h]
  show _ ++ [UInt8.ofNat ((r + 128) % 256)] = _
  rw [Nat.mod_eq_of_lt (by omega)]
def lowL (b : List UInt8) : List UInt8 := b.set 31 (UInt8.ofNat ((b.getD 31 0).toNat % 128))
def topB (b : List UInt8) : Bool := decide (128 ≤ (b.getD 31 0).toNat)
theorem lowL_len (b : List UInt8) : (lowL b).length = b.length := by unfold lowL; rw [List.length_set]
theorem bval_low {b : List UInt8} (h : b.length = 32) : bval b = bval (lowL b) + (if topB b then 2 ^ 255 else 0) ∧ bval (lowL b) < 2 ^ 255 := by
 obtain ⟨c, hc⟩ : ∃ c, b[31]? = some c := ⟨b[31], List.getElem?_eq_getElem _⟩
 have hg : b.getD 31 0 = c := by rw [List.getD_eq_getElem?_getD, hc]; rfl
 have hlow : (lowL b)[31]? = some (UInt8.ofNat (c.toNat % 128)) := by unfold lowL; rw [hg, List.getElem?_set_self (by omega)]
 have e1 := bval_take hc
 have e2 := bval_take hlow
 have t1 : b.take (31 + 1) = b := List.take_of_length_le (by omega)
 have t2 : (lowL b).take (31 + 1) = lowL b := List.take_of_length_le (by rw [lowL_len]; omega)
 have t3 : (lowL b).take 31 = b.take 31 := by unfold lowL; rw [List.take_set_of_le (Nat.le_refl 31)]
 rw [t1] at e1
 rw [t2, t3] at e2
 have hb := bval_lt (b.take 31)
 rw [List.length_take, Nat.min_eq_left (by omega)] at hb
 have hm : (UInt8.ofNat (c.toNat % 128)).toNat = c.toNat % 128 := by rw [UInt8.toNat_ofNat', Nat.mod_eq_of_lt (by omega)]
 rw [hm] at e2
 have hB : (2 : Nat) ^ 255 = 256 ^ 31 * 128 := by decide
 have hc2 : c.toNat < 256 := UInt8.toNat_lt c
 have hd := Nat.div_add_mod c.toNat 128
 unfold topB
 rw [hg, e1, e2, hB]
 generalize (256 : Nat) ^ 31 = W at *
 generalize bval (b.take 31) = V at *
 by_cases ht : 128 ≤ c.toNat
 ·rw [decide_eq_true ht, if_pos rfl]
  have h1 : c.toNat = c.toNat % 128 + 128 := by omega
  refine ⟨?_, ?_⟩
  ·conv => lhs; rw [h1]
   rw [Nat.add_mul, Nat.mul_comm 128 W]
   omega
  ·have : c.toNat % 128 ≤ 127 := by omega
   have := Nat.mul_le_mul_right W this
   omega
 ·rw [decide_eq_false ht, if_neg Bool.false_ne_true]
  have h1 : c.toNat % 128 = c.toNat := by omega
  rw [h1]
  refine ⟨by omega, ?_⟩
  have : c.toNat ≤ 127 := by omega
  have := Nat.mul_le_mul_right W this
  omega
theorem fbytes_low {b : List UInt8} (h : b.length = 32) : (fbytes (lowL b)).val = bval (lowL b) % Pq := by
 show bval (fullL (lowL b)) % Pq = _
 unfold fullL
 rw [List.take_append_of_le_length (by rw [lowL_len]; omega), List.take_of_length_le (by rw [lowL_len]; omega)]
noncomputable def fromL (b : List UInt8) : Option Ed :=
 if b.length = 32 then match unp (fbytes (lowL b)) (topB b) with
  | none => none
  | some P => if packL P = b then some P else none
 else none
theorem from_pack (P : Ed) : fromL (packL P) = some P := by
 have hl := packL_len P
 have h1 : P.y.val < Pq := P.y.isLt
 have hp := pq_255
 obtain ⟨e1, e2⟩ := bval_low hl
 have hb : bval (packL P) = packN P := by unfold packL; rw [bval_leB, Nat.mod_eq_of_lt (packN_lt P)]
 have hsp : bval (lowL (packL P)) = P.y.val ∧ topB (packL P) = decide (P.x.val % 2 = 1) := by
  rw [hb] at e1
  unfold packN at e1
  generalize bval (lowL (packL P)) = L at *
  generalize (2 : Nat) ^ 255 = B at *
  cases ht : topB (packL P) with
  | true =>
   rw [ht, if_pos rfl] at e1
   split at e1
   ·rename_i h; exact ⟨by omega, (decide_eq_true h).symm⟩
   ·omega
  | false =>
   rw [ht, if_neg Bool.false_ne_true] at e1
   split at e1
   ·omega
   ·rename_i h; exact ⟨by omega, (decide_eq_false h).symm⟩
 have hy : fbytes (lowL (packL P)) = P.y := Fin.ext (by rw [fbytes_low hl, hsp.1, Nat.mod_eq_of_lt h1])
 unfold fromL
 rw [if_pos hl, hy, hsp.2, unp_pack]
 show (if packL P = packL P then some P else none) = _
 rw [if_pos rfl]
end Go.Proofs.YtnohmgpmmhlloaaGreatDoor

namespace Go.Proofs.YtnohmgpmmhlloaaGreatDoor
open Go.RowKit
set_option linter.unusedSimpArgs false

theorem squareA {a : Array Value} {X : FK} (w : World) (ha : EA a X) : Calls Tryz.prog 127 #[.agg a] w (ResE w (X * X)) := by
 have HS := hide (St.init w NoB)
 go_enter Tryz.func127, Tryz.ntmps127
 go_wp2_with (first | (go_at_call 83; (with_reducible refine (mulA _ (by assumption) (by assumption)).mono ?_); rintro e wy ⟨z, hz, rfl, hb⟩; try have HS := hide (HS.out.call hb)) | (go_at_call 90; (with_reducible refine (addA _ (by assumption) (by assumption)).mono ?_); rintro e wy ⟨z, hz, rfl, hb⟩; try have HS := hide (HS.out.call hb)) | (go_at_call 88; (with_reducible refine (subA _ (by assumption) (by assumption)).mono ?_); rintro e wy ⟨z, hz, rfl, hb⟩; try have HS := hide (HS.out.call hb)) | (go_at_call 91; (with_reducible refine (negA _ (by assumption)).mono ?_); rintro e wy ⟨z, hz, rfl, hb⟩; try have HS := hide (HS.out.call hb)) | (go_at_call 82; (with_reducible refine (invA _ (by assumption)).mono ?_); rintro e wy ⟨z, hz, rfl, hb⟩; try have HS := hide (HS.out.call hb)) | (refine wl_loadP rfl rfl rfl HS.out (by (repeat first | exact .head _ | apply List.Mem.tail)) (by first | exact rowE | exact rowP | exact rowN | exact rowQ) (by (first | exact .q0 (EA.arr ‹_›) | exact .q1 (EA.arr ‹_›) (EA.arr ‹_›) | exact .q2 (EA.arr ‹_›) (EA.arr ‹_›) (EA.arr ‹_›) | exact .q3 (EA.arr ‹_›) (EA.arr ‹_›) (EA.arr ‹_›) (EA.arr ‹_›) | exact .q0 (NA.arr ‹_›) | exact .q1 (NA.arr ‹_›) (NA.arr ‹_›) | exact .q2 (NA.arr ‹_›) (NA.arr ‹_›) (NA.arr ‹_›) | exact .q3 (NA.arr ‹_›) (NA.arr ‹_›) (NA.arr ‹_›) (NA.arr ‹_›) | exact .all (by (first | exact EA.arr ‹_› | exact NA.arr ‹_› | exact arr_zE | exact arr_zN | exact arr_zP | exact arr_zQ | exact PtN.arr ‹_› | exact PtV.arr ‹_› | exact QtN.arr ‹_› | exact qE ‹_› ‹_› ‹_› ‹_› | exact qN ‹_› ‹_› ‹_› ‹_›)))) ?_; (try simp only [Act.put, nq1, nq2, nq3, nq4, nq5, nq6])) | (refine wl_storeR rfl rfl rfl rfl HS.out (by first | exact rowE | exact rowP | exact rowN | exact rowQ) (by (repeat first | exact .head | apply Upd.tail)) (by (first | exact EA.arr ‹_› | exact NA.arr ‹_› | exact arr_zE | exact arr_zN | exact arr_zP | exact arr_zQ | exact PtN.arr ‹_› | exact PtV.arr ‹_› | exact QtN.arr ‹_› | exact qE ‹_› ‹_› ‹_› ‹_› | exact qN ‹_› ‹_› ‹_› ‹_›)) (by (first | exact EA.arr ‹_› | exact NA.arr ‹_› | exact arr_zE | exact arr_zN | exact arr_zP | exact arr_zQ | exact PtN.arr ‹_› | exact PtV.arr ‹_› | exact QtN.arr ‹_› | exact qE ‹_› ‹_› ‹_› ‹_› | exact qN ‹_› ‹_› ‹_› ‹_›)) ?_; intro wz hS9; have HS := hide hS9; clear hS9; (try simp only [Act.put, nq1, nq2, nq3, nq4, nq5, nq6])) | (refine wl_allocR rfl rfl HS.out (by first | exact newE | exact newP | exact newN | exact newQ) ?_; intro gz wz hS9; have HS := hide hS9; clear hS9; (try simp only [Act.put, nq1, nq2, nq3, nq4, nq5, nq6])) | (refine wl_boxR rfl rfl rfl HS.out ?_; intro gz wz hS9; have HS := hide hS9; clear hS9; (try simp only [Act.put, nq1, nq2, nq3, nq4, nq5, nq6])))
 refine bodyPost_ret (results_cell_row rfl _ _ _ _ _ _ _ rfl (HS.out.heapM (by (repeat first | exact .head _ | apply List.Mem.tail))) Tryz.underlying61 rfl (by first | (rw [(EA.arr ‹_›).size]; kernel_rfl) | (rw [(NA.arr ‹_›).size]; kernel_rfl) | (rw [(qE ‹_› ‹_› ‹_› ‹_›).size]; kernel_rfl) | (rw [(qN ‹_› ‹_› ‹_› ‹_›).size]; kernel_rfl) | (rw [(PtN.arr ‹_›).size]; kernel_rfl) | (rw [(PtV.arr ‹_›).size]; kernel_rfl) | (rw [(QtN.arr ‹_›).size]; kernel_rfl))) rfl ?_
 exact ⟨_, by assumption, rfl, HS.out.below⟩
theorem en36_rt (args : Array Value) (w : World) : (callFunc 83 args).run Tryz.prog w = .ok (.enter 83 args) w := by kernel_rfl
theorem en45_rt (args : Array Value) (w : World) : (callFunc 91 args).run Tryz.prog w = .ok (.enter 91 args) w := by kernel_rfl
theorem en48_rt (args : Array Value) (w : World) : (callFunc 89 args).run Tryz.prog w = .ok (.enter 89 args) w := by kernel_rfl
theorem en61_rt (args : Array Value) (w : World) : (callFunc 122 args).run Tryz.prog w = .ok (.enter 122 args) w := by kernel_rfl
theorem en67_rt (args : Array Value) (w : World) : (callFunc 127 args).run Tryz.prog w = .ok (.enter 127 args) w := by kernel_rfl
theorem en68_rt (args : Array Value) (w : World) : (callFunc 128 args).run Tryz.prog w = .ok (.enter 128 args) w := by kernel_rfl
theorem root_any {u v : Array Value} {U V : FK} (w : World) (hu : EA u U) (hv : EA v V) :
  Calls Tryz.prog 87 #[.agg u, .agg v] w fun e w' => ∃ x, EA x ((rtF U V).getD 0) ∧ e = .returned (.tuple #[.agg x, .bool (rtF U V).isSome]) ∧ Below w.heap.size w w' := by
 have HS := hide (St.init w NoB)
 go_enter Tryz.func87, Tryz.ntmps87
 go_wp2_with (first | (refine wl_loadP rfl rfl rfl HS.out (by (repeat first | exact .head _ | apply List.Mem.tail)) (by first | exact rowE | exact rowP | exact rowN | exact rowQ) (by (first | exact .q0 (EA.arr ‹_›) | exact .q1 (EA.arr ‹_›) (EA.arr ‹_›) | exact .q2 (EA.arr ‹_›) (EA.arr ‹_›) (EA.arr ‹_›) | exact .q3 (EA.arr ‹_›) (EA.arr ‹_›) (EA.arr ‹_›) (EA.arr ‹_›) | exact .q0 (NA.arr ‹_›) | exact .q1 (NA.arr ‹_›) (NA.arr ‹_›) | exact .q2 (NA.arr ‹_›) (NA.arr ‹_›) (NA.arr ‹_›) | exact .q3 (NA.arr ‹_›) (NA.arr ‹_›) (NA.arr ‹_›) (NA.arr ‹_›) | exact .all (by (first | exact EA.arr ‹_› | exact NA.arr ‹_› | exact arr_zE | exact arr_zN | exact arr_zP | exact arr_zQ | exact PtN.arr ‹_› | exact PtV.arr ‹_› | exact QtN.arr ‹_› | exact qE ‹_› ‹_› ‹_› ‹_› | exact qN ‹_› ‹_› ‹_› ‹_›)))) ?_; (try simp only [Act.put, nq1, nq2, nq3, nq4, nq5, nq6])) | (refine wl_storeR rfl rfl rfl rfl HS.out (by first | exact rowE | exact rowP | exact rowN | exact rowQ) (by (repeat first | exact .head | apply Upd.tail)) (by (first | exact EA.arr ‹_› | exact NA.arr ‹_› | exact arr_zE | exact arr_zN | exact arr_zP | exact arr_zQ | exact PtN.arr ‹_› | exact PtV.arr ‹_› | exact QtN.arr ‹_› | exact qE ‹_› ‹_› ‹_› ‹_› | exact qN ‹_› ‹_› ‹_› ‹_›)) (by (first | exact EA.arr ‹_› | exact NA.arr ‹_› | exact arr_zE | exact arr_zN | exact arr_zP | exact arr_zQ | exact PtN.arr ‹_› | exact PtV.arr ‹_› | exact QtN.arr ‹_› | exact qE ‹_› ‹_› ‹_› ‹_› | exact qN ‹_› ‹_› ‹_› ‹_›)) ?_; intro wz hS9; have HS := hide hS9; clear hS9; (try simp only [Act.put, nq1, nq2, nq3, nq4, nq5, nq6])) | (refine wl_allocR rfl rfl HS.out (by first | exact newE | exact newP | exact newN | exact newQ) ?_; intro gz wz hS9; have HS := hide hS9; clear hS9; (try simp only [Act.put, nq1, nq2, nq3, nq4, nq5, nq6])) | (refine wl_boxR rfl rfl rfl HS.out ?_; intro gz wz hS9; have HS := hide hS9; clear hS9; (try simp only [Act.put, nq1, nq2, nq3, nq4, nq5, nq6])))
 have HS := hide HS.out.drew
 refine wp_region_XE [(4, 6)] [(0, 0), (2, 0), (1, 2), (3, 2)] (.op 5 2 (.nil)) zE 61 (by kernel_rfl) (by kernel_rfl) (by kernel_rfl) (by intro p hp; simp only [List.mem_cons, List.not_mem_nil, or_false] at hp; subst hp <;> exact flOp_of rfl rfl rfl (fun ev x => run_allocR rfl newE ev x)) (fun _ _ _ _ h => h) ?_
 refine wpX_loadP rfl rfl rfl rfl HS.out (.tail _ (.head _)) rowE (.all (by first | exact EA.arr ‹_› | exact arr_zE)) ?_; (try simp only [Act.put, nq1, nq2, nq3, nq4, nq5, nq6])
 refine wpX_loadP rfl rfl rfl rfl HS.out (.tail _ (.head _)) rowE (.all (by first | exact EA.arr ‹_› | exact arr_zE)) ?_; (try simp only [Act.put, nq1, nq2, nq3, nq4, nq5, nq6])
 refine wpX_callF rfl rfl rfl en67_rt rfl (fun x => squareA x ‹_›) ?_; rintro xw e wy ⟨z, hz, rfl, hb⟩; refine ⟨_, rfl, hb, ?_⟩; (try simp only [Act.put, nq1, nq2, nq3, nq4, nq5, nq6])
 refine wpX_callF rfl rfl rfl en36_rt rfl (fun x => mulA x ‹_› ‹_›) ?_; rintro xw e wy ⟨z, hz, rfl, hb⟩; refine ⟨_, rfl, hb, ?_⟩; (try simp only [Act.put, nq1, nq2, nq3, nq4, nq5, nq6])
 refine wpX_nil ?_; intro G xz hx0 hx hF; have hS9 := HS.out.floats hx0 hF _ (by decide) (fun _ h => h); simp only [List.map_cons, List.map_nil, List.cons_append, List.nil_append] at hS9; have HS := hide hS9; have HX := hide hx0; have HG := hide hF.at_; clear hS9 hF hx0 hx; simp only [putsE, List.foldl_cons, List.foldl_nil]; (try simp only [Act.put, nq1, nq2, nq3, nq4, nq5, nq6])
 refine wpS_storeF rfl rfl rfl rfl rfl HS.out HX.out (HG.out 4 (by simp)).1 rowE (.head) (by first | exact EA.arr ‹_› | exact arr_zE) (by first | exact EA.arr ‹_› | exact arr_zE) ?_; intro wz hS9 hX9; have HS := hide hS9; have HX := hide hX9; clear hS9 hX9; (try simp only [Act.put, nq1, nq2, nq3, nq4, nq5, nq6])
 refine wpS_nil ?_
 go_wp2_with fail
 have HS := hide HS.out.drew
 refine wp_region_XE [(11, 7)] [(0, 0), (1, 0), (3, 0), (4, 0), (7, 0), (2, 2), (5, 2), (6, 2), (8, 2), (9, 2), (10, 2)] (.op 12 2 (.nil)) zE 61 (by kernel_rfl) (by kernel_rfl) (by kernel_rfl) (by intro p hp; simp only [List.mem_cons, List.not_mem_nil, or_false] at hp; subst hp <;> exact flOp_of rfl rfl rfl (fun ev x => run_allocR rfl newE ev x)) (fun _ _ _ _ h => h) ?_
 refine wpX_loadP rfl rfl rfl rfl HS.out (.tail _ (.tail _ (.tail _ (.head _)))) rowE (.all (by first | exact EA.arr ‹_› | exact arr_zE)) ?_; (try simp only [Act.put, nq1, nq2, nq3, nq4, nq5, nq6])
 refine wpX_loadP rfl rfl rfl rfl HS.out (.head _) rowE (.all (by first | exact EA.arr ‹_› | exact arr_zE)) ?_; (try simp only [Act.put, nq1, nq2, nq3, nq4, nq5, nq6])
 refine wpX_loadP rfl rfl rfl rfl HS.out (.tail _ (.tail _ (.tail _ (.head _)))) rowE (.all (by first | exact EA.arr ‹_› | exact arr_zE)) ?_; (try simp only [Act.put, nq1, nq2, nq3, nq4, nq5, nq6])
 refine wpX_loadP rfl rfl rfl rfl HS.out (.head _) rowE (.all (by first | exact EA.arr ‹_› | exact arr_zE)) ?_; (try simp only [Act.put, nq1, nq2, nq3, nq4, nq5, nq6])
 refine wpX_loadP rfl rfl rfl rfl HS.out (.tail _ (.tail _ (.head _))) rowE (.all (by first | exact EA.arr ‹_› | exact arr_zE)) ?_; (try simp only [Act.put, nq1, nq2, nq3, nq4, nq5, nq6])
 refine wpX_callF rfl rfl rfl en36_rt rfl (fun x => mulA x ‹_› ‹_›) ?_; rintro xw e wy ⟨z, hz, rfl, hb⟩; refine ⟨_, rfl, hb, ?_⟩; (try simp only [Act.put, nq1, nq2, nq3, nq4, nq5, nq6])
 refine wpX_callF rfl rfl rfl en67_rt rfl (fun x => squareA x ‹_›) ?_; rintro xw e wy ⟨z, hz, rfl, hb⟩; refine ⟨_, rfl, hb, ?_⟩; (try simp only [Act.put, nq1, nq2, nq3, nq4, nq5, nq6])
 refine wpX_callF rfl rfl rfl en36_rt rfl (fun x => mulA x ‹_› ‹_›) ?_; rintro xw e wy ⟨z, hz, rfl, hb⟩; refine ⟨_, rfl, hb, ?_⟩; (try simp only [Act.put, nq1, nq2, nq3, nq4, nq5, nq6])
 refine wpX_callF rfl rfl rfl en36_rt rfl (fun x => mulA x ‹_› ‹_›) ?_; rintro xw e wy ⟨z, hz, rfl, hb⟩; refine ⟨_, rfl, hb, ?_⟩; (try simp only [Act.put, nq1, nq2, nq3, nq4, nq5, nq6])
 refine wpX_callF rfl rfl rfl en61_rt rfl (fun x => powA1 x (by assumption)) ?_; rintro xw e wy ⟨z, hz, rfl, hb⟩; refine ⟨_, rfl, hb, ?_⟩; (try simp only [Act.put, nq1, nq2, nq3, nq4, nq5, nq6])
 refine wpX_callF rfl rfl rfl en36_rt rfl (fun x => mulA x ‹_› ‹_›) ?_; rintro xw e wy ⟨z, hz, rfl, hb⟩; refine ⟨_, rfl, hb, ?_⟩; (try simp only [Act.put, nq1, nq2, nq3, nq4, nq5, nq6])
 refine wpX_nil ?_; intro G xz hx0 hx hF; have hS9 := HS.out.floats hx0 hF _ (by decide) (fun _ h => h); simp only [List.map_cons, List.map_nil, List.cons_append, List.nil_append] at hS9; have HS := hide hS9; have HX := hide hx0; have HG := hide hF.at_; clear hS9 hF hx0 hx; simp only [putsE, List.foldl_cons, List.foldl_nil]; (try simp only [Act.put, nq1, nq2, nq3, nq4, nq5, nq6])
 refine wpS_storeF rfl rfl rfl rfl rfl HS.out HX.out (HG.out 11 (by simp)).1 rowE (.head) (by first | exact EA.arr ‹_› | exact arr_zE) (by first | exact EA.arr ‹_› | exact arr_zE) ?_; intro wz hS9 hX9; have HS := hide hS9; have HX := hide hX9; clear hS9 hX9; (try simp only [Act.put, nq1, nq2, nq3, nq4, nq5, nq6])
 refine wpS_nil ?_
 go_wp2_with fail
 have HS := hide HS.out.drew
 refine wp_region_XE [(4, 8)] [(0, 0), (2, 0), (1, 2), (3, 2)] (.op 5 2 (.nil)) zE 61 (by kernel_rfl) (by kernel_rfl) (by kernel_rfl) (by intro p hp; simp only [List.mem_cons, List.not_mem_nil, or_false] at hp; subst hp <;> exact flOp_of rfl rfl rfl (fun ev x => run_allocR rfl newE ev x)) (fun _ _ _ _ h => h) ?_
 refine wpX_loadP rfl rfl rfl rfl HS.out (.head _) rowE (.all (by first | exact EA.arr ‹_› | exact arr_zE)) ?_; (try simp only [Act.put, nq1, nq2, nq3, nq4, nq5, nq6])
 refine wpX_loadP rfl rfl rfl rfl HS.out (.tail _ (.tail _ (.tail _ (.head _)))) rowE (.all (by first | exact EA.arr ‹_› | exact arr_zE)) ?_; (try simp only [Act.put, nq1, nq2, nq3, nq4, nq5, nq6])
 refine wpX_callF rfl rfl rfl en67_rt rfl (fun x => squareA x ‹_›) ?_; rintro xw e wy ⟨z, hz, rfl, hb⟩; refine ⟨_, rfl, hb, ?_⟩; (try simp only [Act.put, nq1, nq2, nq3, nq4, nq5, nq6])
 refine wpX_callF rfl rfl rfl en36_rt rfl (fun x => mulA x ‹_› ‹_›) ?_; rintro xw e wy ⟨z, hz, rfl, hb⟩; refine ⟨_, rfl, hb, ?_⟩; (try simp only [Act.put, nq1, nq2, nq3, nq4, nq5, nq6])
 refine wpX_nil ?_; intro G xz hx0 hx hF; have hS9 := HS.out.floats hx0 hF _ (by decide) (fun _ h => h); simp only [List.map_cons, List.map_nil, List.cons_append, List.nil_append] at hS9; have HS := hide hS9; have HX := hide hx0; have HG := hide hF.at_; clear hS9 hF hx0 hx; simp only [putsE, List.foldl_cons, List.foldl_nil]; (try simp only [Act.put, nq1, nq2, nq3, nq4, nq5, nq6])
 refine wpS_storeF rfl rfl rfl rfl rfl HS.out HX.out (HG.out 4 (by simp)).1 rowE (.head) (by first | exact EA.arr ‹_› | exact arr_zE) (by first | exact EA.arr ‹_› | exact arr_zE) ?_; intro wz hS9 hX9; have HS := hide hS9; have HX := hide hX9; clear hS9 hX9; (try simp only [Act.put, nq1, nq2, nq3, nq4, nq5, nq6])
 refine wpS_nil ?_
 have hX := ‹EA _ (U * (V * V * V) * fpow (U * (V * V * V * (V * V * V)) * V) (2 ^ 252 - 3))›
 have hG := ‹EA _ (U * (V * V * V) * fpow (U * (V * V * V * (V * V * V)) * V) (2 ^ 252 - 3) * (U * (V * V * V) * fpow (U * (V * V * V * (V * V * V)) * V) (2 ^ 252 - 3)) * V)›
 change EA _ (rtX U V) at hX
 change EA _ (rtX U V * rtX U V * V) at hG
 by_cases c1 : rtX U V * rtX U V * V = U
 ·have hF : rtF U V = some (evn (rtX U V)) := by unfold rtF; rw [if_pos c1]
  have HSM := hide (fun W => sameA W hG hu)
  rw [decide_eq_true c1] at HSM
  clear c1
  have HOD := hide (fun W => oddA W hX)
  by_cases ho : (rtX U V).val % 2 = 1
  ·have hev : evn (rtX U V) = -(rtX U V) := by unfold evn; rw [if_pos ho]
   rw [hev] at hF
   rw [decide_eq_true ho] at HOD
   have HF := hide hF
   clear hF hev ho
   go_wp2_with (first | (go_at_call 128; (with_reducible refine (HSM.out _).mono ?_); rintro e wy ⟨rfl, hb⟩; have HS := hide (HS.out.call hb)) | (go_at_call 85; (with_reducible refine (HOD.out _).mono ?_); rintro e wy ⟨rfl, hb⟩; have HS := hide (HS.out.call hb)) | (go_at_call 91; (with_reducible refine (negA _ hX).mono ?_); rintro e wy ⟨zn, hzn, rfl, hb⟩; have HS := hide (HS.out.call hb)) | (refine wl_loadP rfl rfl rfl HS.out (.head _) rowE (.all (by first | exact EA.arr ‹_› | exact arr_zE)) ?_; (try simp only [Act.put, nq1, nq2, nq3, nq4, nq5, nq6])) | (refine wl_loadP rfl rfl rfl HS.out (.tail _ (.tail _ (.tail _ (.tail _ (.tail _ (.head _)))))) rowE (.all (by first | exact EA.arr ‹_› | exact arr_zE)) ?_; (try simp only [Act.put, nq1, nq2, nq3, nq4, nq5, nq6])) | (refine wl_storeR rfl rfl rfl rfl HS.out rowE (.tail (.tail (.tail (.head)))) (by first | exact EA.arr ‹_› | exact arr_zE) (by first | exact EA.arr ‹_› | exact arr_zE) ?_; intro wz hS9; have HS := hide hS9; clear hS9; (try simp only [Act.put, nq1, nq2, nq3, nq4, nq5, nq6])) | (refine wl_loadP rfl rfl rfl HS.out (.tail _ (.head _)) rowE (.all (by first | exact EA.arr ‹_› | exact arr_zE)) ?_; (try simp only [Act.put, nq1, nq2, nq3, nq4, nq5, nq6])) | (refine wl_storeR rfl rfl rfl rfl HS.out rowE (.tail (.head)) (by first | exact EA.arr ‹_› | exact arr_zE) (by first | exact EA.arr ‹_› | exact arr_zE) ?_; intro wz hS9; have HS := hide hS9; clear hS9; (try simp only [Act.put, nq1, nq2, nq3, nq4, nq5, nq6])))
   refine bodyPost_ret (results_cell_tmp_row rfl _ _ _ _ _ _ _ rfl (HS.out.heapM (by (repeat first | exact .head _ | apply List.Mem.tail))) Tryz.underlying61 rfl (by first | (rw [(EA.arr ‹_›).size]; kernel_rfl) | (rw [(NA.arr ‹_›).size]; kernel_rfl) | (rw [(qE ‹_› ‹_› ‹_› ‹_›).size]; kernel_rfl) | (rw [(qN ‹_› ‹_› ‹_› ‹_›).size]; kernel_rfl) | (rw [(PtN.arr ‹_›).size]; kernel_rfl) | (rw [(PtV.arr ‹_›).size]; kernel_rfl) | (rw [(QtN.arr ‹_›).size]; kernel_rfl))) rfl ?_
   rw [HF.out]
   exact ⟨_, hzn, rfl, HS.out.below⟩
  ·have hev : evn (rtX U V) = rtX U V := by unfold evn; rw [if_neg ho]
   rw [hev] at hF
   rw [decide_eq_false ho] at HOD
   have HF := hide hF
   clear hF hev ho
   go_wp2_with (first | (go_at_call 128; (with_reducible refine (HSM.out _).mono ?_); rintro e wy ⟨rfl, hb⟩; have HS := hide (HS.out.call hb)) | (go_at_call 85; (with_reducible refine (HOD.out _).mono ?_); rintro e wy ⟨rfl, hb⟩; have HS := hide (HS.out.call hb)) | (refine wl_loadP rfl rfl rfl HS.out (.head _) rowE (.all (by first | exact EA.arr ‹_› | exact arr_zE)) ?_; (try simp only [Act.put, nq1, nq2, nq3, nq4, nq5, nq6])) | (refine wl_loadP rfl rfl rfl HS.out (.tail _ (.tail _ (.tail _ (.tail _ (.tail _ (.head _)))))) rowE (.all (by first | exact EA.arr ‹_› | exact arr_zE)) ?_; (try simp only [Act.put, nq1, nq2, nq3, nq4, nq5, nq6])) | (refine wl_storeR rfl rfl rfl rfl HS.out rowE (.tail (.tail (.tail (.head)))) (by first | exact EA.arr ‹_› | exact arr_zE) (by first | exact EA.arr ‹_› | exact arr_zE) ?_; intro wz hS9; have HS := hide hS9; clear hS9; (try simp only [Act.put, nq1, nq2, nq3, nq4, nq5, nq6])) | (refine wl_loadP rfl rfl rfl HS.out (.tail _ (.head _)) rowE (.all (by first | exact EA.arr ‹_› | exact arr_zE)) ?_; (try simp only [Act.put, nq1, nq2, nq3, nq4, nq5, nq6])) | (refine wl_storeR rfl rfl rfl rfl HS.out rowE (.tail (.head)) (by first | exact EA.arr ‹_› | exact arr_zE) (by first | exact EA.arr ‹_› | exact arr_zE) ?_; intro wz hS9; have HS := hide hS9; clear hS9; (try simp only [Act.put, nq1, nq2, nq3, nq4, nq5, nq6])))
   refine bodyPost_ret (results_cell_tmp_row rfl _ _ _ _ _ _ _ rfl (HS.out.heapM (by (repeat first | exact .head _ | apply List.Mem.tail))) Tryz.underlying61 rfl (by first | (rw [(EA.arr ‹_›).size]; kernel_rfl) | (rw [(NA.arr ‹_›).size]; kernel_rfl) | (rw [(qE ‹_› ‹_› ‹_› ‹_›).size]; kernel_rfl) | (rw [(qN ‹_› ‹_› ‹_› ‹_›).size]; kernel_rfl) | (rw [(PtN.arr ‹_›).size]; kernel_rfl) | (rw [(PtV.arr ‹_›).size]; kernel_rfl) | (rw [(QtN.arr ‹_›).size]; kernel_rfl))) rfl ?_
   rw [HF.out]
   exact ⟨_, hX, rfl, HS.out.below⟩
 ·by_cases c2 : rtX U V * rtX U V * V = -U
  ·have hF : rtF U V = some (evn (rtX U V * iF)) := by unfold rtF; rw [if_neg c1, if_pos c2]
   have HSM := hide (fun W => sameA W hG hu)
   rw [decide_eq_false c1] at HSM
   have HC2 := hide c2
   clear c1 c2
   go_wp2_with (first | (go_at_call 128; (with_reducible refine (HSM.out _).mono ?_); rintro e wy ⟨rfl, hb⟩; have HS := hide (HS.out.call hb)) | (refine wl_loadP rfl rfl rfl HS.out (.head _) rowE (.all (by first | exact EA.arr ‹_› | exact arr_zE)) ?_; (try simp only [Act.put, nq1, nq2, nq3, nq4, nq5, nq6])) | (refine wl_loadP rfl rfl rfl HS.out (.tail _ (.tail _ (.tail _ (.tail _ (.tail _ (.head _)))))) rowE (.all (by first | exact EA.arr ‹_› | exact arr_zE)) ?_; (try simp only [Act.put, nq1, nq2, nq3, nq4, nq5, nq6])) | (refine wl_storeR rfl rfl rfl rfl HS.out rowE (.tail (.tail (.tail (.head)))) (by first | exact EA.arr ‹_› | exact arr_zE) (by first | exact EA.arr ‹_› | exact arr_zE) ?_; intro wz hS9; have HS := hide hS9; clear hS9; (try simp only [Act.put, nq1, nq2, nq3, nq4, nq5, nq6])) | (refine wl_loadP rfl rfl rfl HS.out (.tail _ (.head _)) rowE (.all (by first | exact EA.arr ‹_› | exact arr_zE)) ?_; (try simp only [Act.put, nq1, nq2, nq3, nq4, nq5, nq6])) | (refine wl_storeR rfl rfl rfl rfl HS.out rowE (.tail (.head)) (by first | exact EA.arr ‹_› | exact arr_zE) (by first | exact EA.arr ‹_› | exact arr_zE) ?_; intro wz hS9; have HS := hide hS9; clear hS9; (try simp only [Act.put, nq1, nq2, nq3, nq4, nq5, nq6])))
   have HS := hide HS.out.drew
   refine wp_region_T [(0, 0), (1, 0), (2, 2), (3, 2), (4, 1)] (by kernel_rfl) (by kernel_rfl) (fun _ _ _ _ h => h) ?_
   refine wpT_loadP rfl rfl rfl rfl HS.out (.head _) rowE (.all (by first | exact EA.arr ‹_› | exact arr_zE)) ?_; (try simp only [Act.put, nq1, nq2, nq3, nq4, nq5, nq6])
   refine wpT_loadP rfl rfl rfl rfl HS.out (.tail _ (.tail _ (.tail _ (.tail _ (.tail _ (.head _)))))) rowE (.all (by first | exact EA.arr ‹_› | exact arr_zE)) ?_; (try simp only [Act.put, nq1, nq2, nq3, nq4, nq5, nq6])
   refine wpT_callF rfl rfl rfl en45_rt rfl (negA _ ‹_›) ?_; rintro e wy ⟨z, hz, rfl, hb⟩; refine ⟨_, rfl, hb, ?_⟩; have HS := hide (HS.out.call hb); (try simp only [Act.put, nq1, nq2, nq3, nq4, nq5, nq6])
   refine wpT_callF rfl rfl rfl en68_rt rfl (sameA _ ‹_› ‹_›) ?_; rintro e wy ⟨rfl, hb⟩; refine ⟨_, rfl, hb, ?_⟩; have HS := hide (HS.out.call hb); (try simp only [Act.put, nq1, nq2, nq3, nq4, nq5, nq6])
   (refine wpT_pure (v := ?_) rfl rfl ?_ ?_; rotate_left; (intro wx; go_simp; try go_bits) <;> (with_reducible rfl)); (try simp only [Act.put, nq1, nq2, nq3, nq4, nq5, nq6])
   refine wpT_nil ?_
   rw [decide_eq_true HC2.out]
   go_wp2_with fail
   have HS := hide HS.out.drew
   refine wp_region_T [(0, 0), (1, 2), (2, 2), (3, 2), (4, 3)] (by kernel_rfl) (by kernel_rfl) (fun _ _ _ _ h => h) ?_
   refine wpT_loadP rfl rfl rfl rfl HS.out (.tail _ (.head _)) rowE (.all (by first | exact EA.arr ‹_› | exact arr_zE)) ?_; (try simp only [Act.put, nq1, nq2, nq3, nq4, nq5, nq6])
   refine wpT_callF rfl rfl rfl en48_rt rfl (small2A _) ?_; rintro e wy ⟨z, hz, rfl, hb⟩; refine ⟨_, rfl, hb, ?_⟩; have HS := hide (HS.out.call hb); (try simp only [Act.put, nq1, nq2, nq3, nq4, nq5, nq6])
   refine wpT_callF rfl rfl rfl en61_rt rfl (powA2 _ (by assumption)) ?_; rintro e wy ⟨z, hz, rfl, hb⟩; refine ⟨_, rfl, hb, ?_⟩; have HS := hide (HS.out.call hb); (try simp only [Act.put, nq1, nq2, nq3, nq4, nq5, nq6])
   refine wpT_callF rfl rfl rfl en36_rt rfl (mulA _ ‹_› ‹_›) ?_; rintro e wy ⟨z, hz, rfl, hb⟩; refine ⟨_, rfl, hb, ?_⟩; have HS := hide (HS.out.call hb); (try simp only [Act.put, nq1, nq2, nq3, nq4, nq5, nq6])
   refine wpT_late rfl rfl ?_; intro K hK; refine wp_storeR rfl rfl rfl HS.out rowE (.tail (.head)) (by first | exact EA.arr ‹_› | exact arr_zE) (by first | exact EA.arr ‹_› | exact arr_zE) ?_; intro wz hS9; have HS := hide hS9; clear hS9; refine hK _ _ ?_; (try simp only [Act.put, nq1, nq2, nq3, nq4, nq5, nq6])
   refine wpT_nil ?_
   have hXI := ‹EA _ (rtX U V * fpow (toF 2) (2 ^ 253 - 5))›
   rw [two_root] at hXI
   have HOD := hide (fun W => oddA W hXI)
   by_cases ho : (rtX U V * iF).val % 2 = 1
   ·have hev : evn (rtX U V * iF) = -(rtX U V * iF) := by unfold evn; rw [if_pos ho]
    rw [hev] at hF
    rw [decide_eq_true ho] at HOD
    have HF := hide hF
    clear hF hev ho
    go_wp2_with (first | (go_at_call 85; (with_reducible refine (HOD.out _).mono ?_); rintro e wy ⟨rfl, hb⟩; have HS := hide (HS.out.call hb)) | (go_at_call 91; (with_reducible refine (negA _ hXI).mono ?_); rintro e wy ⟨zn, hzn, rfl, hb⟩; have HS := hide (HS.out.call hb)) | (refine wl_loadP rfl rfl rfl HS.out (.head _) rowE (.all (by first | exact EA.arr ‹_› | exact arr_zE)) ?_; (try simp only [Act.put, nq1, nq2, nq3, nq4, nq5, nq6])) | (refine wl_loadP rfl rfl rfl HS.out (.tail _ (.tail _ (.tail _ (.tail _ (.tail _ (.head _)))))) rowE (.all (by first | exact EA.arr ‹_› | exact arr_zE)) ?_; (try simp only [Act.put, nq1, nq2, nq3, nq4, nq5, nq6])) | (refine wl_storeR rfl rfl rfl rfl HS.out rowE (.tail (.tail (.tail (.head)))) (by first | exact EA.arr ‹_› | exact arr_zE) (by first | exact EA.arr ‹_› | exact arr_zE) ?_; intro wz hS9; have HS := hide hS9; clear hS9; (try simp only [Act.put, nq1, nq2, nq3, nq4, nq5, nq6])) | (refine wl_loadP rfl rfl rfl HS.out (.tail _ (.head _)) rowE (.all (by first | exact EA.arr ‹_› | exact arr_zE)) ?_; (try simp only [Act.put, nq1, nq2, nq3, nq4, nq5, nq6])) | (refine wl_storeR rfl rfl rfl rfl HS.out rowE (.tail (.head)) (by first | exact EA.arr ‹_› | exact arr_zE) (by first | exact EA.arr ‹_› | exact arr_zE) ?_; intro wz hS9; have HS := hide hS9; clear hS9; (try simp only [Act.put, nq1, nq2, nq3, nq4, nq5, nq6])))
    refine bodyPost_ret (results_cell_tmp_row rfl _ _ _ _ _ _ _ rfl (HS.out.heapM (by (repeat first | exact .head _ | apply List.Mem.tail))) Tryz.underlying61 rfl (by first | (rw [(EA.arr ‹_›).size]; kernel_rfl) | (rw [(NA.arr ‹_›).size]; kernel_rfl) | (rw [(qE ‹_› ‹_› ‹_› ‹_›).size]; kernel_rfl) | (rw [(qN ‹_› ‹_› ‹_› ‹_›).size]; kernel_rfl) | (rw [(PtN.arr ‹_›).size]; kernel_rfl) | (rw [(PtV.arr ‹_›).size]; kernel_rfl) | (rw [(QtN.arr ‹_›).size]; kernel_rfl))) rfl ?_
    rw [HF.out]
    exact ⟨_, hzn, rfl, HS.out.below⟩
   ·have hev : evn (rtX U V * iF) = rtX U V * iF := by unfold evn; rw [if_neg ho]
    rw [hev] at hF
    rw [decide_eq_false ho] at HOD
    have HF := hide hF
    clear hF hev ho
    go_wp2_with (first | (go_at_call 85; (with_reducible refine (HOD.out _).mono ?_); rintro e wy ⟨rfl, hb⟩; have HS := hide (HS.out.call hb)) | (refine wl_loadP rfl rfl rfl HS.out (.head _) rowE (.all (by first | exact EA.arr ‹_› | exact arr_zE)) ?_; (try simp only [Act.put, nq1, nq2, nq3, nq4, nq5, nq6])) | (refine wl_loadP rfl rfl rfl HS.out (.tail _ (.tail _ (.tail _ (.tail _ (.tail _ (.head _)))))) rowE (.all (by first | exact EA.arr ‹_› | exact arr_zE)) ?_; (try simp only [Act.put, nq1, nq2, nq3, nq4, nq5, nq6])) | (refine wl_storeR rfl rfl rfl rfl HS.out rowE (.tail (.tail (.tail (.head)))) (by first | exact EA.arr ‹_› | exact arr_zE) (by first | exact EA.arr ‹_› | exact arr_zE) ?_; intro wz hS9; have HS := hide hS9; clear hS9; (try simp only [Act.put, nq1, nq2, nq3, nq4, nq5, nq6])) | (refine wl_loadP rfl rfl rfl HS.out (.tail _ (.head _)) rowE (.all (by first | exact EA.arr ‹_› | exact arr_zE)) ?_; (try simp only [Act.put, nq1, nq2, nq3, nq4, nq5, nq6])) | (refine wl_storeR rfl rfl rfl rfl HS.out rowE (.tail (.head)) (by first | exact EA.arr ‹_› | exact arr_zE) (by first | exact EA.arr ‹_› | exact arr_zE) ?_; intro wz hS9; have HS := hide hS9; clear hS9; (try simp only [Act.put, nq1, nq2, nq3, nq4, nq5, nq6])))
    refine bodyPost_ret (results_cell_tmp_row rfl _ _ _ _ _ _ _ rfl (HS.out.heapM (by (repeat first | exact .head _ | apply List.Mem.tail))) Tryz.underlying61 rfl (by first | (rw [(EA.arr ‹_›).size]; kernel_rfl) | (rw [(NA.arr ‹_›).size]; kernel_rfl) | (rw [(qE ‹_› ‹_› ‹_› ‹_›).size]; kernel_rfl) | (rw [(qN ‹_› ‹_› ‹_› ‹_›).size]; kernel_rfl) | (rw [(PtN.arr ‹_›).size]; kernel_rfl) | (rw [(PtV.arr ‹_›).size]; kernel_rfl) | (rw [(QtN.arr ‹_›).size]; kernel_rfl))) rfl ?_
    rw [HF.out]
    exact ⟨_, hXI, rfl, HS.out.below⟩
  ·have hF : rtF U V = none := by unfold rtF; rw [if_neg c1, if_neg c2]
   have HSM := hide (fun W => sameA W hG hu)
   rw [decide_eq_false c1] at HSM
   have HC2 := hide c2
   have HF := hide hF
   clear c1 c2 hF
   have hz0 := ea_zero
   go_wp2_with (first | (go_at_call 128; (with_reducible refine (HSM.out _).mono ?_); rintro e wy ⟨rfl, hb⟩; have HS := hide (HS.out.call hb)) | (refine wl_loadP rfl rfl rfl HS.out (.head _) rowE (.all (by first | exact EA.arr ‹_› | exact arr_zE)) ?_; (try simp only [Act.put, nq1, nq2, nq3, nq4, nq5, nq6])) | (refine wl_loadP rfl rfl rfl HS.out (.tail _ (.tail _ (.tail _ (.tail _ (.tail _ (.head _)))))) rowE (.all (by first | exact EA.arr ‹_› | exact arr_zE)) ?_; (try simp only [Act.put, nq1, nq2, nq3, nq4, nq5, nq6])) | (refine wl_storeR rfl rfl rfl rfl HS.out rowE (.tail (.tail (.tail (.head)))) (by first | exact EA.arr ‹_› | exact arr_zE) (by first | exact EA.arr ‹_› | exact arr_zE) ?_; intro wz hS9; have HS := hide hS9; clear hS9; (try simp only [Act.put, nq1, nq2, nq3, nq4, nq5, nq6])) | (refine wl_loadP rfl rfl rfl HS.out (.tail _ (.head _)) rowE (.all (by first | exact EA.arr ‹_› | exact arr_zE)) ?_; (try simp only [Act.put, nq1, nq2, nq3, nq4, nq5, nq6])) | (refine wl_storeR rfl rfl rfl rfl HS.out rowE (.tail (.head)) (by first | exact EA.arr ‹_› | exact arr_zE) (by first | exact EA.arr ‹_› | exact arr_zE) ?_; intro wz hS9; have HS := hide hS9; clear hS9; (try simp only [Act.put, nq1, nq2, nq3, nq4, nq5, nq6])))
   have HS := hide HS.out.drew
   refine wp_region_T [(0, 0), (1, 0), (2, 2), (3, 2), (4, 1)] (by kernel_rfl) (by kernel_rfl) (fun _ _ _ _ h => h) ?_
   refine wpT_loadP rfl rfl rfl rfl HS.out (.head _) rowE (.all (by first | exact EA.arr ‹_› | exact arr_zE)) ?_; (try simp only [Act.put, nq1, nq2, nq3, nq4, nq5, nq6])
   refine wpT_loadP rfl rfl rfl rfl HS.out (.tail _ (.tail _ (.tail _ (.tail _ (.tail _ (.head _)))))) rowE (.all (by first | exact EA.arr ‹_› | exact arr_zE)) ?_; (try simp only [Act.put, nq1, nq2, nq3, nq4, nq5, nq6])
   refine wpT_callF rfl rfl rfl en45_rt rfl (negA _ ‹_›) ?_; rintro e wy ⟨z, hz, rfl, hb⟩; refine ⟨_, rfl, hb, ?_⟩; have HS := hide (HS.out.call hb); (try simp only [Act.put, nq1, nq2, nq3, nq4, nq5, nq6])
   refine wpT_callF rfl rfl rfl en68_rt rfl (sameA _ ‹_› ‹_›) ?_; rintro e wy ⟨rfl, hb⟩; refine ⟨_, rfl, hb, ?_⟩; have HS := hide (HS.out.call hb); (try simp only [Act.put, nq1, nq2, nq3, nq4, nq5, nq6])
   (refine wpT_pure (v := ?_) rfl rfl ?_ ?_; rotate_left; (intro wx; go_simp; try go_bits) <;> (with_reducible rfl)); (try simp only [Act.put, nq1, nq2, nq3, nq4, nq5, nq6])
   refine wpT_nil ?_
   rw [decide_eq_false HC2.out]
   go_wp2_with (first | (refine wl_loadP rfl rfl rfl HS.out (.head _) rowE (.all (by first | exact EA.arr ‹_› | exact arr_zE)) ?_; (try simp only [Act.put, nq1, nq2, nq3, nq4, nq5, nq6])) | (refine wl_loadP rfl rfl rfl HS.out (.tail _ (.tail _ (.tail _ (.tail _ (.tail _ (.head _)))))) rowE (.all (by first | exact EA.arr ‹_› | exact arr_zE)) ?_; (try simp only [Act.put, nq1, nq2, nq3, nq4, nq5, nq6])) | (refine wl_storeR rfl rfl rfl rfl HS.out rowE (.tail (.tail (.tail (.head)))) (by first | exact EA.arr ‹_› | exact arr_zE) (by first | exact EA.arr ‹_› | exact arr_zE) ?_; intro wz hS9; have HS := hide hS9; clear hS9; (try simp only [Act.put, nq1, nq2, nq3, nq4, nq5, nq6])) | (refine wl_loadP rfl rfl rfl HS.out (.tail _ (.head _)) rowE (.all (by first | exact EA.arr ‹_› | exact arr_zE)) ?_; (try simp only [Act.put, nq1, nq2, nq3, nq4, nq5, nq6])) | (refine wl_storeR rfl rfl rfl rfl HS.out rowE (.tail (.head)) (by first | exact EA.arr ‹_› | exact arr_zE) (by first | exact EA.arr ‹_› | exact arr_zE) ?_; intro wz hS9; have HS := hide hS9; clear hS9; (try simp only [Act.put, nq1, nq2, nq3, nq4, nq5, nq6])))
   refine bodyPost_ret (results_cell_tmp_row rfl _ _ _ _ _ _ _ rfl (HS.out.heapM (by (repeat first | exact .head _ | apply List.Mem.tail))) Tryz.underlying61 rfl (by first | (rw [(EA.arr ‹_›).size]; kernel_rfl) | (rw [(NA.arr ‹_›).size]; kernel_rfl) | (rw [(qE ‹_› ‹_› ‹_› ‹_›).size]; kernel_rfl) | (rw [(qN ‹_› ‹_› ‹_› ‹_›).size]; kernel_rfl) | (rw [(PtN.arr ‹_›).size]; kernel_rfl) | (rw [(PtV.arr ‹_›).size]; kernel_rfl) | (rw [(QtN.arr ‹_›).size]; kernel_rfl))) rfl ?_
   rw [HF.out]
   exact ⟨_, hz0, rfl, HS.out.below⟩
end Go.Proofs.YtnohmgpmmhlloaaGreatDoor

namespace Go.Proofs.YtnohmgpmmhlloaaGreatDoor
open Go.RowKit
set_option linter.unusedSimpArgs false

theorem en36_pl (args : Array Value) (w : World) : (callFunc 83 args).run Tryz.prog w = .ok (.enter 83 args) w := by kernel_rfl
theorem en52_pl (args : Array Value) (w : World) : (callFunc 88 args).run Tryz.prog w = .ok (.enter 88 args) w := by kernel_rfl
theorem en53_pl (args : Array Value) (w : World) : (callFunc 90 args).run Tryz.prog w = .ok (.enter 90 args) w := by kernel_rfl
theorem plus_any {a b c d a' b' c' d' k : Array Value} {X Y Z T X' Y' Z' T' : FK} (w : World) (h1 : EA a X) (h2 : EA b Y) (h3 : EA c Z) (h4 : EA d T) (g1 : EA a' X') (g2 : EA b' Y') (g3 : EA c' Z') (g4 : EA d' T') (hk : EA k dF) :
  Calls Tryz.prog 80 #[.agg (quad a b c d), .agg (quad a' b' c' d'), .agg k] w (ResP w (plJ ⟨X, Y, Z, T⟩ ⟨X', Y', Z', T'⟩)) := by
 have HS := hide (St.init w NoB)
 go_enter Tryz.func80, Tryz.ntmps80
 go_wp2_with (first | (refine wl_loadP rfl rfl rfl HS.out (by (repeat first | exact .head _ | apply List.Mem.tail)) (by first | exact rowE | exact rowP | exact rowN | exact rowQ) (by (first | exact .q0 (EA.arr ‹_›) | exact .q1 (EA.arr ‹_›) (EA.arr ‹_›) | exact .q2 (EA.arr ‹_›) (EA.arr ‹_›) (EA.arr ‹_›) | exact .q3 (EA.arr ‹_›) (EA.arr ‹_›) (EA.arr ‹_›) (EA.arr ‹_›) | exact .q0 (NA.arr ‹_›) | exact .q1 (NA.arr ‹_›) (NA.arr ‹_›) | exact .q2 (NA.arr ‹_›) (NA.arr ‹_›) (NA.arr ‹_›) | exact .q3 (NA.arr ‹_›) (NA.arr ‹_›) (NA.arr ‹_›) (NA.arr ‹_›) | exact .all (by (first | exact EA.arr ‹_› | exact NA.arr ‹_› | exact arr_zE | exact arr_zN | exact arr_zP | exact arr_zQ | exact PtN.arr ‹_› | exact PtV.arr ‹_› | exact QtN.arr ‹_› | exact qE ‹_› ‹_› ‹_› ‹_› | exact qN ‹_› ‹_› ‹_› ‹_›)))) ?_; (try simp only [Act.put, nq1, nq2, nq3, nq4, nq5, nq6])) | (refine wl_storeR rfl rfl rfl rfl HS.out (by first | exact rowE | exact rowP | exact rowN | exact rowQ) (by (repeat first | exact .head | apply Upd.tail)) (by (first | exact EA.arr ‹_› | exact NA.arr ‹_› | exact arr_zE | exact arr_zN | exact arr_zP | exact arr_zQ | exact PtN.arr ‹_› | exact PtV.arr ‹_› | exact QtN.arr ‹_› | exact qE ‹_› ‹_› ‹_› ‹_› | exact qN ‹_› ‹_› ‹_› ‹_›)) (by (first | exact EA.arr ‹_› | exact NA.arr ‹_› | exact arr_zE | exact arr_zN | exact arr_zP | exact arr_zQ | exact PtN.arr ‹_› | exact PtV.arr ‹_› | exact QtN.arr ‹_› | exact qE ‹_› ‹_› ‹_› ‹_› | exact qN ‹_› ‹_› ‹_› ‹_›)) ?_; intro wz hS9; have HS := hide hS9; clear hS9; (try simp only [Act.put, nq1, nq2, nq3, nq4, nq5, nq6])) | (refine wl_allocR rfl rfl HS.out (by first | exact newE | exact newP | exact newN | exact newQ) ?_; intro gz wz hS9; have HS := hide hS9; clear hS9; (try simp only [Act.put, nq1, nq2, nq3, nq4, nq5, nq6])) | (refine wl_boxR rfl rfl rfl HS.out ?_; intro gz wz hS9; have HS := hide hS9; clear hS9; (try simp only [Act.put, nq1, nq2, nq3, nq4, nq5, nq6])))
 have HS := hide HS.out.drew
 refine wp_region_XE [(11, 7)] [(0, 1), (1, 0), (2, 1), (3, 0), (5, 1), (6, 0), (7, 1), (8, 0), (4, 2), (9, 2), (10, 2)] (.op 12 2 (.nil)) zE 61 (by kernel_rfl) (by kernel_rfl) (by kernel_rfl) (by intro p hp; simp only [List.mem_cons, List.not_mem_nil, or_false] at hp; subst hp <;> exact flOp_of rfl rfl rfl (fun ev x => run_allocR rfl newE ev x)) (fun _ _ _ _ h => h) ?_
 (refine wpX_pure (v := ?_) rfl rfl ?_ ?_; rotate_left; (intro wx; go_simp; try go_bits) <;> (with_reducible rfl)); (try simp only [Act.put, nq1, nq2, nq3, nq4, nq5, nq6])
 refine wpX_loadP rfl rfl rfl rfl HS.out (.tail _ (.tail _ (.tail _ (.head _)))) rowE (.q1 (EA.arr ‹_›) (EA.arr ‹_›)) ?_; (try simp only [Act.put, nq1, nq2, nq3, nq4, nq5, nq6])
 (refine wpX_pure (v := ?_) rfl rfl ?_ ?_; rotate_left; (intro wx; go_simp; try go_bits) <;> (with_reducible rfl)); (try simp only [Act.put, nq1, nq2, nq3, nq4, nq5, nq6])
 refine wpX_loadP rfl rfl rfl rfl HS.out (.tail _ (.tail _ (.tail _ (.head _)))) rowE (.q0 (EA.arr ‹_›)) ?_; (try simp only [Act.put, nq1, nq2, nq3, nq4, nq5, nq6])
 (refine wpX_pure (v := ?_) rfl rfl ?_ ?_; rotate_left; (intro wx; go_simp; try go_bits) <;> (with_reducible rfl)); (try simp only [Act.put, nq1, nq2, nq3, nq4, nq5, nq6])
 refine wpX_loadP rfl rfl rfl rfl HS.out (.tail _ (.tail _ (.head _))) rowE (.q1 (EA.arr ‹_›) (EA.arr ‹_›)) ?_; (try simp only [Act.put, nq1, nq2, nq3, nq4, nq5, nq6])
 (refine wpX_pure (v := ?_) rfl rfl ?_ ?_; rotate_left; (intro wx; go_simp; try go_bits) <;> (with_reducible rfl)); (try simp only [Act.put, nq1, nq2, nq3, nq4, nq5, nq6])
 refine wpX_loadP rfl rfl rfl rfl HS.out (.tail _ (.tail _ (.head _))) rowE (.q0 (EA.arr ‹_›)) ?_; (try simp only [Act.put, nq1, nq2, nq3, nq4, nq5, nq6])
 refine wpX_callF rfl rfl rfl en52_pl rfl (fun x => subA x ‹_› ‹_›) ?_; rintro xw e wy ⟨z, hz, rfl, hb⟩; refine ⟨_, rfl, hb, ?_⟩; (try simp only [Act.put, nq1, nq2, nq3, nq4, nq5, nq6])
 refine wpX_callF rfl rfl rfl en52_pl rfl (fun x => subA x ‹_› ‹_›) ?_; rintro xw e wy ⟨z, hz, rfl, hb⟩; refine ⟨_, rfl, hb, ?_⟩; (try simp only [Act.put, nq1, nq2, nq3, nq4, nq5, nq6])
 refine wpX_callF rfl rfl rfl en36_pl rfl (fun x => mulA x ‹_› ‹_›) ?_; rintro xw e wy ⟨z, hz, rfl, hb⟩; refine ⟨_, rfl, hb, ?_⟩; (try simp only [Act.put, nq1, nq2, nq3, nq4, nq5, nq6])
 refine wpX_nil ?_; intro G xz hx0 hx hF; have hS9 := HS.out.floats hx0 hF _ (by decide) (fun _ h => h); simp only [List.map_cons, List.map_nil, List.cons_append, List.nil_append] at hS9; have HS := hide hS9; have HX := hide hx0; have HG := hide hF.at_; clear hS9 hF hx0 hx; simp only [putsE, List.foldl_cons, List.foldl_nil]; (try simp only [Act.put, nq1, nq2, nq3, nq4, nq5, nq6])
 refine wpS_storeF rfl rfl rfl rfl rfl HS.out HX.out (HG.out 11 (by simp)).1 rowE (.head) (by first | exact EA.arr ‹_› | exact arr_zE) (by first | exact EA.arr ‹_› | exact arr_zE) ?_; intro wz hS9 hX9; have HS := hide hS9; have HX := hide hX9; clear hS9 hX9; (try simp only [Act.put, nq1, nq2, nq3, nq4, nq5, nq6])
 refine wpS_nil ?_
 go_wp2_with fail
 have HS := hide HS.out.drew
 refine wp_region_XE [(11, 8)] [(0, 1), (1, 0), (2, 1), (3, 0), (5, 1), (6, 0), (7, 1), (8, 0), (4, 2), (9, 2), (10, 2)] (.op 12 2 (.nil)) zE 61 (by kernel_rfl) (by kernel_rfl) (by kernel_rfl) (by intro p hp; simp only [List.mem_cons, List.not_mem_nil, or_false] at hp; subst hp <;> exact flOp_of rfl rfl rfl (fun ev x => run_allocR rfl newE ev x)) (fun _ _ _ _ h => h) ?_
 (refine wpX_pure (v := ?_) rfl rfl ?_ ?_; rotate_left; (intro wx; go_simp; try go_bits) <;> (with_reducible rfl)); (try simp only [Act.put, nq1, nq2, nq3, nq4, nq5, nq6])
 refine wpX_loadP rfl rfl rfl rfl HS.out (.tail _ (.tail _ (.tail _ (.tail _ (.head _))))) rowE (.q1 (EA.arr ‹_›) (EA.arr ‹_›)) ?_; (try simp only [Act.put, nq1, nq2, nq3, nq4, nq5, nq6])
 (refine wpX_pure (v := ?_) rfl rfl ?_ ?_; rotate_left; (intro wx; go_simp; try go_bits) <;> (with_reducible rfl)); (try simp only [Act.put, nq1, nq2, nq3, nq4, nq5, nq6])
 refine wpX_loadP rfl rfl rfl rfl HS.out (.tail _ (.tail _ (.tail _ (.tail _ (.head _))))) rowE (.q0 (EA.arr ‹_›)) ?_; (try simp only [Act.put, nq1, nq2, nq3, nq4, nq5, nq6])
 (refine wpX_pure (v := ?_) rfl rfl ?_ ?_; rotate_left; (intro wx; go_simp; try go_bits) <;> (with_reducible rfl)); (try simp only [Act.put, nq1, nq2, nq3, nq4, nq5, nq6])
 refine wpX_loadP rfl rfl rfl rfl HS.out (.tail _ (.tail _ (.tail _ (.head _)))) rowE (.q1 (EA.arr ‹_›) (EA.arr ‹_›)) ?_; (try simp only [Act.put, nq1, nq2, nq3, nq4, nq5, nq6])
 (refine wpX_pure (v := ?_) rfl rfl ?_ ?_; rotate_left; (intro wx; go_simp; try go_bits) <;> (with_reducible rfl)); (try simp only [Act.put, nq1, nq2, nq3, nq4, nq5, nq6])
 refine wpX_loadP rfl rfl rfl rfl HS.out (.tail _ (.tail _ (.tail _ (.head _)))) rowE (.q0 (EA.arr ‹_›)) ?_; (try simp only [Act.put, nq1, nq2, nq3, nq4, nq5, nq6])
 refine wpX_callF rfl rfl rfl en53_pl rfl (fun x => addA x ‹_› ‹_›) ?_; rintro xw e wy ⟨z, hz, rfl, hb⟩; refine ⟨_, rfl, hb, ?_⟩; (try simp only [Act.put, nq1, nq2, nq3, nq4, nq5, nq6])
 refine wpX_callF rfl rfl rfl en53_pl rfl (fun x => addA x ‹_› ‹_›) ?_; rintro xw e wy ⟨z, hz, rfl, hb⟩; refine ⟨_, rfl, hb, ?_⟩; (try simp only [Act.put, nq1, nq2, nq3, nq4, nq5, nq6])
 refine wpX_callF rfl rfl rfl en36_pl rfl (fun x => mulA x ‹_› ‹_›) ?_; rintro xw e wy ⟨z, hz, rfl, hb⟩; refine ⟨_, rfl, hb, ?_⟩; (try simp only [Act.put, nq1, nq2, nq3, nq4, nq5, nq6])
 refine wpX_nil ?_; intro G xz hx0 hx hF; have hS9 := HS.out.floats hx0 hF _ (by decide) (fun _ h => h); simp only [List.map_cons, List.map_nil, List.cons_append, List.nil_append] at hS9; have HS := hide hS9; have HX := hide hx0; have HG := hide hF.at_; clear hS9 hF hx0 hx; simp only [putsE, List.foldl_cons, List.foldl_nil]; (try simp only [Act.put, nq1, nq2, nq3, nq4, nq5, nq6])
 refine wpS_storeF rfl rfl rfl rfl rfl HS.out HX.out (HG.out 11 (by simp)).1 rowE (.head) (by first | exact EA.arr ‹_› | exact arr_zE) (by first | exact EA.arr ‹_› | exact arr_zE) ?_; intro wz hS9 hX9; have HS := hide hS9; have HX := hide hX9; clear hS9 hX9; (try simp only [Act.put, nq1, nq2, nq3, nq4, nq5, nq6])
 refine wpS_nil ?_
 go_wp2_with fail
 have HS := hide HS.out.drew
 refine wp_region_XE [(7, 9)] [(0, 1), (1, 0), (2, 1), (3, 0), (5, 0), (4, 2), (6, 2)] (.op 8 2 (.nil)) zE 61 (by kernel_rfl) (by kernel_rfl) (by kernel_rfl) (by intro p hp; simp only [List.mem_cons, List.not_mem_nil, or_false] at hp; subst hp <;> exact flOp_of rfl rfl rfl (fun ev x => run_allocR rfl newE ev x)) (fun _ _ _ _ h => h) ?_
 (refine wpX_pure (v := ?_) rfl rfl ?_ ?_; rotate_left; (intro wx; go_simp; try go_bits) <;> (with_reducible rfl)); (try simp only [Act.put, nq1, nq2, nq3, nq4, nq5, nq6])
 refine wpX_loadP rfl rfl rfl rfl HS.out (.tail _ (.tail _ (.tail _ (.tail _ (.tail _ (.head _)))))) rowE (.q3 (EA.arr ‹_›) (EA.arr ‹_›) (EA.arr ‹_›) (EA.arr ‹_›)) ?_; (try simp only [Act.put, nq1, nq2, nq3, nq4, nq5, nq6])
 (refine wpX_pure (v := ?_) rfl rfl ?_ ?_; rotate_left; (intro wx; go_simp; try go_bits) <;> (with_reducible rfl)); (try simp only [Act.put, nq1, nq2, nq3, nq4, nq5, nq6])
 refine wpX_loadP rfl rfl rfl rfl HS.out (.tail _ (.tail _ (.tail _ (.tail _ (.head _))))) rowE (.q3 (EA.arr ‹_›) (EA.arr ‹_›) (EA.arr ‹_›) (EA.arr ‹_›)) ?_; (try simp only [Act.put, nq1, nq2, nq3, nq4, nq5, nq6])
 refine wpX_loadP rfl rfl rfl rfl HS.out (.tail _ (.tail _ (.tail _ (.head _)))) rowE (.all (by first | exact EA.arr ‹_› | exact arr_zE)) ?_; (try simp only [Act.put, nq1, nq2, nq3, nq4, nq5, nq6])
 refine wpX_callF rfl rfl rfl en36_pl rfl (fun x => mulA x ‹_› ‹_›) ?_; rintro xw e wy ⟨z, hz, rfl, hb⟩; refine ⟨_, rfl, hb, ?_⟩; (try simp only [Act.put, nq1, nq2, nq3, nq4, nq5, nq6])
 refine wpX_callF rfl rfl rfl en36_pl rfl (fun x => mulA x ‹_› ‹_›) ?_; rintro xw e wy ⟨z, hz, rfl, hb⟩; refine ⟨_, rfl, hb, ?_⟩; (try simp only [Act.put, nq1, nq2, nq3, nq4, nq5, nq6])
 refine wpX_nil ?_; intro G xz hx0 hx hF; have hS9 := HS.out.floats hx0 hF _ (by decide) (fun _ h => h); simp only [List.map_cons, List.map_nil, List.cons_append, List.nil_append] at hS9; have HS := hide hS9; have HX := hide hx0; have HG := hide hF.at_; clear hS9 hF hx0 hx; simp only [putsE, List.foldl_cons, List.foldl_nil]; (try simp only [Act.put, nq1, nq2, nq3, nq4, nq5, nq6])
 refine wpS_storeF rfl rfl rfl rfl rfl HS.out HX.out (HG.out 7 (by simp)).1 rowE (.head) (by first | exact EA.arr ‹_› | exact arr_zE) (by first | exact EA.arr ‹_› | exact arr_zE) ?_; intro wz hS9 hX9; have HS := hide hS9; have HX := hide hX9; clear hS9 hX9; (try simp only [Act.put, nq1, nq2, nq3, nq4, nq5, nq6])
 refine wpS_nil ?_
 go_wp2_with (first | (go_at_call 83; (with_reducible refine (mulA _ (by assumption) (by assumption)).mono ?_); rintro e wy ⟨z, hz, rfl, hb⟩; try have HS := hide (HS.out.call hb)) | (go_at_call 90; (with_reducible refine (addA _ (by assumption) (by assumption)).mono ?_); rintro e wy ⟨z, hz, rfl, hb⟩; try have HS := hide (HS.out.call hb)) | (go_at_call 88; (with_reducible refine (subA _ (by assumption) (by assumption)).mono ?_); rintro e wy ⟨z, hz, rfl, hb⟩; try have HS := hide (HS.out.call hb)) | (go_at_call 91; (with_reducible refine (negA _ (by assumption)).mono ?_); rintro e wy ⟨z, hz, rfl, hb⟩; try have HS := hide (HS.out.call hb)) | (go_at_call 82; (with_reducible refine (invA _ (by assumption)).mono ?_); rintro e wy ⟨z, hz, rfl, hb⟩; try have HS := hide (HS.out.call hb)) | (refine wl_loadP rfl rfl rfl HS.out (by (repeat first | exact .head _ | apply List.Mem.tail)) (by first | exact rowE | exact rowP | exact rowN | exact rowQ) (by (first | exact .q0 (EA.arr ‹_›) | exact .q1 (EA.arr ‹_›) (EA.arr ‹_›) | exact .q2 (EA.arr ‹_›) (EA.arr ‹_›) (EA.arr ‹_›) | exact .q3 (EA.arr ‹_›) (EA.arr ‹_›) (EA.arr ‹_›) (EA.arr ‹_›) | exact .q0 (NA.arr ‹_›) | exact .q1 (NA.arr ‹_›) (NA.arr ‹_›) | exact .q2 (NA.arr ‹_›) (NA.arr ‹_›) (NA.arr ‹_›) | exact .q3 (NA.arr ‹_›) (NA.arr ‹_›) (NA.arr ‹_›) (NA.arr ‹_›) | exact .all (by (first | exact EA.arr ‹_› | exact NA.arr ‹_› | exact arr_zE | exact arr_zN | exact arr_zP | exact arr_zQ | exact PtN.arr ‹_› | exact PtV.arr ‹_› | exact QtN.arr ‹_› | exact qE ‹_› ‹_› ‹_› ‹_› | exact qN ‹_› ‹_› ‹_› ‹_›)))) ?_; (try simp only [Act.put, nq1, nq2, nq3, nq4, nq5, nq6])) | (refine wl_storeR rfl rfl rfl rfl HS.out (by first | exact rowE | exact rowP | exact rowN | exact rowQ) (by (repeat first | exact .head | apply Upd.tail)) (by (first | exact EA.arr ‹_› | exact NA.arr ‹_› | exact arr_zE | exact arr_zN | exact arr_zP | exact arr_zQ | exact PtN.arr ‹_› | exact PtV.arr ‹_› | exact QtN.arr ‹_› | exact qE ‹_› ‹_› ‹_› ‹_› | exact qN ‹_› ‹_› ‹_› ‹_›)) (by (first | exact EA.arr ‹_› | exact NA.arr ‹_› | exact arr_zE | exact arr_zN | exact arr_zP | exact arr_zQ | exact PtN.arr ‹_› | exact PtV.arr ‹_› | exact QtN.arr ‹_› | exact qE ‹_› ‹_› ‹_› ‹_› | exact qN ‹_› ‹_› ‹_› ‹_›)) ?_; intro wz hS9; have HS := hide hS9; clear hS9; (try simp only [Act.put, nq1, nq2, nq3, nq4, nq5, nq6])) | (refine wl_allocR rfl rfl HS.out (by first | exact newE | exact newP | exact newN | exact newQ) ?_; intro gz wz hS9; have HS := hide hS9; clear hS9; (try simp only [Act.put, nq1, nq2, nq3, nq4, nq5, nq6])) | (refine wl_boxR rfl rfl rfl HS.out ?_; intro gz wz hS9; have HS := hide hS9; clear hS9; (try simp only [Act.put, nq1, nq2, nq3, nq4, nq5, nq6])))
 have HS := hide HS.out.drew
 refine wp_region_XE [(12, 11), (13, 12), (14, 13), (15, 14)] [(0, 0), (1, 0), (3, 0), (4, 0), (6, 0), (7, 0), (9, 0), (10, 0), (2, 2), (5, 2), (8, 2), (11, 2)] (.op 16 2 (.op 17 2 (.op 18 2 (.op 19 2 (.nil))))) zE 61 (by kernel_rfl) (by kernel_rfl) (by kernel_rfl) (by intro p hp; simp only [List.mem_cons, List.not_mem_nil, or_false] at hp; rcases hp with rfl | rfl | rfl | rfl <;> exact flOp_of rfl rfl rfl (fun ev x => run_allocR rfl newE ev x)) (fun _ _ _ _ h => h) ?_
 refine wpX_loadP rfl rfl rfl rfl HS.out (.tail _ (.tail _ (.head _))) rowE (.all (by first | exact EA.arr ‹_› | exact arr_zE)) ?_; (try simp only [Act.put, nq1, nq2, nq3, nq4, nq5, nq6])
 refine wpX_loadP rfl rfl rfl rfl HS.out (.tail _ (.tail _ (.tail _ (.head _)))) rowE (.all (by first | exact EA.arr ‹_› | exact arr_zE)) ?_; (try simp only [Act.put, nq1, nq2, nq3, nq4, nq5, nq6])
 refine wpX_loadP rfl rfl rfl rfl HS.out (.head _) rowE (.all (by first | exact EA.arr ‹_› | exact arr_zE)) ?_; (try simp only [Act.put, nq1, nq2, nq3, nq4, nq5, nq6])
 refine wpX_loadP rfl rfl rfl rfl HS.out (.tail _ (.head _)) rowE (.all (by first | exact EA.arr ‹_› | exact arr_zE)) ?_; (try simp only [Act.put, nq1, nq2, nq3, nq4, nq5, nq6])
 refine wpX_loadP rfl rfl rfl rfl HS.out (.head _) rowE (.all (by first | exact EA.arr ‹_› | exact arr_zE)) ?_; (try simp only [Act.put, nq1, nq2, nq3, nq4, nq5, nq6])
 refine wpX_loadP rfl rfl rfl rfl HS.out (.tail _ (.head _)) rowE (.all (by first | exact EA.arr ‹_› | exact arr_zE)) ?_; (try simp only [Act.put, nq1, nq2, nq3, nq4, nq5, nq6])
 refine wpX_loadP rfl rfl rfl rfl HS.out (.tail _ (.tail _ (.head _))) rowE (.all (by first | exact EA.arr ‹_› | exact arr_zE)) ?_; (try simp only [Act.put, nq1, nq2, nq3, nq4, nq5, nq6])
 refine wpX_loadP rfl rfl rfl rfl HS.out (.tail _ (.tail _ (.tail _ (.head _)))) rowE (.all (by first | exact EA.arr ‹_› | exact arr_zE)) ?_; (try simp only [Act.put, nq1, nq2, nq3, nq4, nq5, nq6])
 refine wpX_callF rfl rfl rfl en52_pl rfl (fun x => subA x ‹_› ‹_›) ?_; rintro xw e wy ⟨z, hz, rfl, hb⟩; refine ⟨_, rfl, hb, ?_⟩; (try simp only [Act.put, nq1, nq2, nq3, nq4, nq5, nq6])
 refine wpX_callF rfl rfl rfl en52_pl rfl (fun x => subA x ‹_› ‹_›) ?_; rintro xw e wy ⟨z, hz, rfl, hb⟩; refine ⟨_, rfl, hb, ?_⟩; (try simp only [Act.put, nq1, nq2, nq3, nq4, nq5, nq6])
 refine wpX_callF rfl rfl rfl en53_pl rfl (fun x => addA x ‹_› ‹_›) ?_; rintro xw e wy ⟨z, hz, rfl, hb⟩; refine ⟨_, rfl, hb, ?_⟩; (try simp only [Act.put, nq1, nq2, nq3, nq4, nq5, nq6])
 refine wpX_callF rfl rfl rfl en53_pl rfl (fun x => addA x ‹_› ‹_›) ?_; rintro xw e wy ⟨z, hz, rfl, hb⟩; refine ⟨_, rfl, hb, ?_⟩; (try simp only [Act.put, nq1, nq2, nq3, nq4, nq5, nq6])
 refine wpX_nil ?_; intro G xz hx0 hx hF; have hS9 := HS.out.floats hx0 hF _ (by decide) (fun _ h => h); simp only [List.map_cons, List.map_nil, List.cons_append, List.nil_append] at hS9; have HS := hide hS9; have HX := hide hx0; have HG := hide hF.at_; clear hS9 hF hx0 hx; simp only [putsE, List.foldl_cons, List.foldl_nil]; (try simp only [Act.put, nq1, nq2, nq3, nq4, nq5, nq6])
 refine wpS_storeF rfl rfl rfl rfl rfl HS.out HX.out (HG.out 12 (by simp)).1 rowE (.head) (by first | exact EA.arr ‹_› | exact arr_zE) (by first | exact EA.arr ‹_› | exact arr_zE) ?_; intro wz hS9 hX9; have HS := hide hS9; have HX := hide hX9; clear hS9 hX9; (try simp only [Act.put, nq1, nq2, nq3, nq4, nq5, nq6])
 refine wpS_storeF rfl rfl rfl rfl rfl HS.out HX.out (HG.out 13 (by simp)).1 rowE (.tail (.head)) (by first | exact EA.arr ‹_› | exact arr_zE) (by first | exact EA.arr ‹_› | exact arr_zE) ?_; intro wz hS9 hX9; have HS := hide hS9; have HX := hide hX9; clear hS9 hX9; (try simp only [Act.put, nq1, nq2, nq3, nq4, nq5, nq6])
 refine wpS_storeF rfl rfl rfl rfl rfl HS.out HX.out (HG.out 14 (by simp)).1 rowE (.tail (.tail (.head))) (by first | exact EA.arr ‹_› | exact arr_zE) (by first | exact EA.arr ‹_› | exact arr_zE) ?_; intro wz hS9 hX9; have HS := hide hS9; have HX := hide hX9; clear hS9 hX9; (try simp only [Act.put, nq1, nq2, nq3, nq4, nq5, nq6])
 refine wpS_storeF rfl rfl rfl rfl rfl HS.out HX.out (HG.out 15 (by simp)).1 rowE (.tail (.tail (.tail (.head)))) (by first | exact EA.arr ‹_› | exact arr_zE) (by first | exact EA.arr ‹_› | exact arr_zE) ?_; intro wz hS9 hX9; have HS := hide hS9; have HX := hide hX9; clear hS9 hX9; (try simp only [Act.put, nq1, nq2, nq3, nq4, nq5, nq6])
 refine wpS_nil ?_
 go_wp2_with fail
 have HS := hide HS.out.drew
 refine wp_region_T [(0, 0), (1, 0), (3, 0), (4, 0), (6, 0), (7, 0), (9, 0), (10, 0), (2, 2), (5, 2), (8, 2), (11, 2), (12, 1), (13, 3)] (by kernel_rfl) (by kernel_rfl) (fun _ _ _ _ h => h) ?_
 refine wpT_loadP rfl rfl rfl rfl HS.out (.head _) rowE (.all (by first | exact EA.arr ‹_› | exact arr_zE)) ?_; (try simp only [Act.put, nq1, nq2, nq3, nq4, nq5, nq6])
 refine wpT_loadP rfl rfl rfl rfl HS.out (.tail _ (.head _)) rowE (.all (by first | exact EA.arr ‹_› | exact arr_zE)) ?_; (try simp only [Act.put, nq1, nq2, nq3, nq4, nq5, nq6])
 refine wpT_loadP rfl rfl rfl rfl HS.out (.tail _ (.tail _ (.head _))) rowE (.all (by first | exact EA.arr ‹_› | exact arr_zE)) ?_; (try simp only [Act.put, nq1, nq2, nq3, nq4, nq5, nq6])
 refine wpT_loadP rfl rfl rfl rfl HS.out (.tail _ (.tail _ (.tail _ (.head _)))) rowE (.all (by first | exact EA.arr ‹_› | exact arr_zE)) ?_; (try simp only [Act.put, nq1, nq2, nq3, nq4, nq5, nq6])
 refine wpT_loadP rfl rfl rfl rfl HS.out (.tail _ (.head _)) rowE (.all (by first | exact EA.arr ‹_› | exact arr_zE)) ?_; (try simp only [Act.put, nq1, nq2, nq3, nq4, nq5, nq6])
 refine wpT_loadP rfl rfl rfl rfl HS.out (.tail _ (.tail _ (.head _))) rowE (.all (by first | exact EA.arr ‹_› | exact arr_zE)) ?_; (try simp only [Act.put, nq1, nq2, nq3, nq4, nq5, nq6])
 refine wpT_loadP rfl rfl rfl rfl HS.out (.head _) rowE (.all (by first | exact EA.arr ‹_› | exact arr_zE)) ?_; (try simp only [Act.put, nq1, nq2, nq3, nq4, nq5, nq6])
 refine wpT_loadP rfl rfl rfl rfl HS.out (.tail _ (.tail _ (.tail _ (.head _)))) rowE (.all (by first | exact EA.arr ‹_› | exact arr_zE)) ?_; (try simp only [Act.put, nq1, nq2, nq3, nq4, nq5, nq6])
 refine wpT_callF rfl rfl rfl en36_pl rfl (mulA _ ‹_› ‹_›) ?_; rintro e wy ⟨z, hz, rfl, hb⟩; refine ⟨_, rfl, hb, ?_⟩; have HS := hide (HS.out.call hb); (try simp only [Act.put, nq1, nq2, nq3, nq4, nq5, nq6])
 refine wpT_callF rfl rfl rfl en36_pl rfl (mulA _ ‹_› ‹_›) ?_; rintro e wy ⟨z, hz, rfl, hb⟩; refine ⟨_, rfl, hb, ?_⟩; have HS := hide (HS.out.call hb); (try simp only [Act.put, nq1, nq2, nq3, nq4, nq5, nq6])
 refine wpT_callF rfl rfl rfl en36_pl rfl (mulA _ ‹_› ‹_›) ?_; rintro e wy ⟨z, hz, rfl, hb⟩; refine ⟨_, rfl, hb, ?_⟩; have HS := hide (HS.out.call hb); (try simp only [Act.put, nq1, nq2, nq3, nq4, nq5, nq6])
 refine wpT_callF rfl rfl rfl en36_pl rfl (mulA _ ‹_› ‹_›) ?_; rintro e wy ⟨z, hz, rfl, hb⟩; refine ⟨_, rfl, hb, ?_⟩; have HS := hide (HS.out.call hb); (try simp only [Act.put, nq1, nq2, nq3, nq4, nq5, nq6])
 refine wpT_pure rfl rfl (fun x => run_build4 rfl rfl rfl rfl rfl buildP (exE ‹_›) (exE ‹_›) (exE ‹_›) (exE ‹_›) x) ?_; (try simp only [Act.put, nq1, nq2, nq3, nq4, nq5, nq6])
 refine wpT_late rfl rfl ?_; intro K hK; refine wp_storeR rfl rfl rfl HS.out rowP (.tail (.tail (.tail (.tail (.tail (.tail (.tail (.tail (.head))))))))) (by first | exact arr_zP | exact PtN.arr ‹_› | exact PtV.arr ‹_› | exact qE ‹_› ‹_› ‹_› ‹_›) (by first | exact arr_zP | exact PtN.arr ‹_› | exact PtV.arr ‹_› | exact qE ‹_› ‹_› ‹_› ‹_›) ?_; intro wz hS9; have HS := hide hS9; clear hS9; refine hK _ _ ?_; (try simp only [Act.put, nq1, nq2, nq3, nq4, nq5, nq6])
 refine wpT_nil ?_
 go_wp2_with fail
 refine bodyPost_ret (results_cell_row rfl _ _ _ _ _ _ _ rfl (HS.out.heapM (by (repeat first | exact .head _ | apply List.Mem.tail))) Tryz.underlying63 rfl (by first | (rw [(EA.arr ‹_›).size]; kernel_rfl) | (rw [(NA.arr ‹_›).size]; kernel_rfl) | (rw [(qE ‹_› ‹_› ‹_› ‹_›).size]; kernel_rfl) | (rw [(qN ‹_› ‹_› ‹_› ‹_›).size]; kernel_rfl) | (rw [(PtN.arr ‹_›).size]; kernel_rfl) | (rw [(PtV.arr ‹_›).size]; kernel_rfl) | (rw [(QtN.arr ‹_›).size]; kernel_rfl))) rfl ?_
 refine ⟨_, _, _, _, ?_, ?_, ?_, ?_, rfl, HS.out.below⟩ <;> assumption
end Go.Proofs.YtnohmgpmmhlloaaGreatDoor
