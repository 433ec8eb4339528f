/-
  A region that draws its order, walked along one schedule: readers float, calls come up alone, a write ends the floating of loads. One check of the schedule serves all operations.
  No program is named here.
-/
import Derived.Test.YthpioncehigoaaaRl
set_option linter.unusedSimpArgs false
set_option linter.unusedVariables false
namespace Go.Proofs.Ythpioncehigoaaa
open Go.RowKit

def FromT (w w' : World) (p : Prop) : Prop := Below w.heap.size w w' ∧ p
theorem fromT_refl {w : World} {p : Prop} (h : p) : FromT w w p := ⟨Below.refl _ _, h⟩
theorem fromT_mk {w w' : World} {p : Prop} (hb : Below w.heap.size w w') (h : p) : FromT w w' p := ⟨hb, h⟩

section
variable {P : Program} {ops : Array Oper} {Q : Exit → Act → World → Prop} {md : Region.Mode} {lt : Nat → Bool}

/-- The schedule: (number, mode); mode 0: reads, stands under From; 1: reads nothing of the world; 2: alone, what was there stays; 3: alone, a write; 4: alone, behind a write. -/
def schedB (md : Region.Mode) (ops : Array Oper) (lt : Nat → Bool) : Bool → List (Nat × Nat) → Array Bool → Bool
  | _, [], listed => (Region.ready md ops listed).isEmpty
  | e, (i, m) :: rest, listed =>
    (match m with
      | 0 => e && (Region.ready md ops listed).contains i && Region.free md ops listed i && lateB md ops lt i && !lt i
      | 1 => (Region.ready md ops listed).contains i && Region.free md ops listed i && !lt i
      | 2 => e && Region.ready md ops listed == [i] && !lt i
      | 3 => e && Region.ready md ops listed == [i] && lt i
      | _ => !e && Region.ready md ops listed == [i]) && schedB md ops lt (e && decide (m < 3)) rest (listed.setIfInBounds i true)

def wpT (P : Program) (ops : Array Oper) (Q : Exit → Act → World → Prop) : List (Nat × Nat) → Act → World → Prop
  | [], a, w => Q .normal a w
  | (i, m) :: rest, a, w => ∃ o, ops[i]? = some o ∧
    if Region.wanted o (yielded ops a.tmps) = true then
      (match m with
       | 0 => ∃ v, (∀ x, From w x → (execOp a.eval o).run P x = .ok (.value v) x) ∧ wpT P ops Q rest (a.put o.dst v) w
       | 1 => ∃ v, (∀ x, (execOp a.eval o).run P x = .ok (.value v) x) ∧ wpT P ops Q rest (a.put o.dst v) w
       | 2 => o.wp P a w (fun a' w' => FromT w w' (wpT P ops Q rest a' w')) Q
       | _ => o.wp P a w (fun a' w' => wpT P ops Q rest a' w') Q)
    else wpT P ops Q rest (a.put o.dst undef) w

theorem wpAny_doneT {listed : Array Bool} {a : Act} {w : World} (hr : Region.ready md ops listed = []) (h : Q .normal a w) :
    ∀ fuel, wpAny P md ops Q fuel listed a w
  | 0 => ⟨hr, h⟩
  | _ + 1 => ⟨fun _ => h, by rw [hr]; simp⟩
theorem wpM_doneT {S : World → Prop} {listed : Array Bool} {a : Act} {w : World} (hr : Region.ready md ops listed = []) (h : Q .normal a w) :
    ∀ fuel, wpM P md ops Q lt fuel S listed a w
  | 0 => ⟨hr, h⟩
  | _ + 1 => ⟨fun _ => h, by rw [hr]; simp⟩

theorem hput (hQ : ∀ c (a : Act) (t : Array Value) w, Q (.panic c) { a with tmps := t } w → Q (.panic c) a w) (o : Oper) (v : Value) : ∀ c (a : Act) w, Q (.panic c) (a.put o.dst v) w → Q (.panic c) a w := by
  intro c a w h
  cases hd : o.dst with
  | none => rw [hd] at h; exact h
  | some d => rw [hd] at h; exact hQ c a _ w h
theorem wpAny_of_T (hs : Region.noSelect ops = true) (hQ : ∀ c (a : Act) (t : Array Value) w, Q (.panic c) { a with tmps := t } w → Q (.panic c) a w) :
    ∀ (order : List (Nat × Nat)) (fuel : Nat) (listed : Array Bool) (a : Act) (w : World), order.length ≤ fuel → schedB md ops lt false order listed = true → wpT P ops Q order a w → wpAny P md ops Q fuel listed a w := by
  intro order
  induction order with
  | nil =>
    intro fuel listed a w _ hb h
    exact wpAny_doneT (by simpa [schedB] using hb) h fuel
  | cons p rest ih =>
    obtain ⟨i, m⟩ := p
    intro fuel listed a w hf hb h
    obtain ⟨fuel, rfl⟩ : ∃ k, fuel = k + 1 := ⟨fuel - 1, by simp at hf; omega⟩
    simp only [List.length_cons, Nat.add_le_add_iff_right] at hf
    obtain ⟨o, ho, h⟩ := h
    unfold schedB at hb
    match m, h, hb with
    | 0, h, hb => simp at hb
    | 2, h, hb => simp at hb
    | 3, h, hb => simp at hb
    | 1, h, hb =>
      simp only [Bool.and_eq_true, Bool.false_and] at hb
      obtain ⟨⟨⟨hr, hfr⟩, _⟩, hb⟩ := hb
      by_cases hw : Region.wanted o (yielded ops a.tmps) = true
      · rw [if_pos hw] at h
        obtain ⟨v, hv, h⟩ := h
        exact wpAny_first ho (Region.noSelect_spec hs) (hput hQ o _) fuel listed a w (Region.free_spec ho hfr) (by simpa using hr) (.inl ⟨hw, hv⟩) (ih fuel _ _ _ hf hb h)
      · rw [if_neg hw] at h
        exact wpAny_first ho (Region.noSelect_spec hs) (hput hQ o _) fuel listed a w (Region.free_spec ho hfr) (by simpa using hr) (.inr ⟨by simpa using hw, rfl⟩) (ih fuel _ _ _ hf hb h)
    | m + 4, h, hb =>
      simp only [Bool.and_eq_true, Bool.false_and, beq_iff_eq] at hb
      obtain ⟨⟨_, hr⟩, hb⟩ := hb
      refine wpAny_one hr ho fun K hK => ?_
      by_cases hw : Region.wanted o (yielded ops a.tmps) = true
      · rw [if_pos hw] at h ⊢
        exact Oper.wp_mono (fun a' w' h' => hK _ _ (ih fuel _ _ _ hf hb h')) h
      · rw [if_neg hw] at h ⊢
        exact hK _ _ (ih fuel _ _ _ hf hb h)

theorem wpM_of_T (hs : Region.noSelect ops = true) (hQ : ∀ c (a : Act) (t : Array Value) w, Q (.panic c) { a with tmps := t } w → Q (.panic c) a w) :
    ∀ (order : List (Nat × Nat)) (fuel : Nat) (listed : Array Bool) (a : Act) (w : World), order.length ≤ fuel → schedB md ops lt true order listed = true → wpT P ops Q order a w → wpM P md ops Q lt fuel (From w) listed a w := by
  intro order
  induction order with
  | nil =>
    intro fuel listed a w _ hb h
    exact wpM_doneT (by simpa [schedB] using hb) h fuel
  | cons p rest ih =>
    obtain ⟨i, m⟩ := p
    intro fuel listed a w hf hb h
    obtain ⟨fuel, rfl⟩ : ∃ k, fuel = k + 1 := ⟨fuel - 1, by simp at hf; omega⟩
    simp only [List.length_cons, Nat.add_le_add_iff_right] at hf
    obtain ⟨o, ho, h⟩ := h
    unfold schedB at hb
    match m, h, hb with
    | m + 4, h, hb => simp at hb
    | 0, h, hb =>
      simp only [Bool.and_eq_true, Bool.true_and, Bool.not_eq_true'] at hb
      obtain ⟨⟨⟨⟨hr, hfr⟩, hlb⟩, hl⟩, hb⟩ := hb
      by_cases hw : Region.wanted o (yielded ops a.tmps) = true
      · rw [if_pos hw] at h
        obtain ⟨v, hv, h⟩ := h
        exact wpM_take ho hs hfr hr (hput hQ o _) (From.refl w) hl hlb (.inl ⟨hw, hv⟩) (ih fuel _ _ _ hf hb h)
      · rw [if_neg hw] at h
        exact wpM_take ho hs hfr hr (hput hQ o _) (From.refl w) hl hlb (.inr ⟨by simpa using hw, rfl⟩) (ih fuel _ _ _ hf hb h)
    | 1, h, hb =>
      simp only [Bool.and_eq_true, Bool.true_and, Bool.not_eq_true'] at hb
      obtain ⟨⟨⟨hr, hfr⟩, hl⟩, hb⟩ := hb
      by_cases hw : Region.wanted o (yielded ops a.tmps) = true
      · rw [if_pos hw] at h
        obtain ⟨v, hv, h⟩ := h
        exact wpM_takeU ho hs hfr hr (hput hQ o _) (From.refl w) hl (.inl ⟨hw, hv⟩) (ih fuel _ _ _ hf hb h)
      · rw [if_neg hw] at h
        exact wpM_takeU ho hs hfr hr (hput hQ o _) (From.refl w) hl (.inr ⟨by simpa using hw, rfl⟩) (ih fuel _ _ _ hf hb h)
    | 2, h, hb =>
      simp only [Bool.and_eq_true, Bool.true_and, Bool.not_eq_true', beq_iff_eq] at hb
      obtain ⟨⟨hr, hl⟩, hb⟩ := hb
      refine wpM_one hr ho hl fun K hK => ?_
      by_cases hw : Region.wanted o (yielded ops a.tmps) = true
      · rw [if_pos hw] at h ⊢
        exact Oper.wp_mono (fun a' w' h' => hK (From w') _ _ (From.next h'.1) (From.refl _) (ih fuel _ _ _ hf hb h'.2)) h
      · rw [if_neg hw] at h ⊢
        exact hK (From w) _ _ (fun _ h => h) (From.refl _) (ih fuel _ _ _ hf hb h)
    | 3, h, hb =>
      simp only [Bool.and_eq_true, Bool.true_and, beq_iff_eq] at hb
      obtain ⟨⟨hr, hl⟩, hb⟩ := hb
      refine wpM_late hr ho hl fun K hK => ?_
      by_cases hw : Region.wanted o (yielded ops a.tmps) = true
      · rw [if_pos hw] at h ⊢
        exact Oper.wp_mono (fun a' w' h' => hK _ _ (wpAny_of_T hs hQ rest fuel _ _ _ hf hb h')) h
      · rw [if_neg hw] at h ⊢
        exact hK _ _ (wpAny_of_T hs hQ rest fuel _ _ _ hf hb h)

def schedAll (ops : Array Oper) (order : List (Nat × Nat)) : Bool :=
  Region.noSelect ops && decide (order.length ≤ ops.size) && schedB .any ops (fun i => order.contains (i, 3)) true order (Array.replicate ops.size false)
theorem wp_region_T {id : Nat} {a : Act} {w : World} (order : List (Nat × Nat)) (hm : P.follows .mixedOrders = true) (hb : schedAll ops order = true) (hQ : ∀ c (a : Act) (t : Array Value) w, Q (.panic c) { a with tmps := t } w → Q (.panic c) a w)
    (h : wpT P ops Q order a w.drew) : (Code.region id ops true).wp P Q a w := by
  unfold schedAll at hb
  simp only [Bool.and_eq_true, decide_eq_true_eq] at hb
  exact wp_region_any hm (wpAny_of_M _ _ _ _ _ (wpM_of_T (lt := fun i => order.contains (i, 3)) hb.1.1 hQ order ops.size _ a w.drew hb.1.2 hb.2 h))

/-! The steps. -/
variable {i : Nat} {o : Oper} {rest : List (Nat × Nat)} {a : Act} {w : World} {v : Value}
theorem wpT_nil (h : Q .normal a w) : wpT P ops Q [] a w := h
theorem wpT_skip {m : Nat} (ho : ops[i]? = some o) (hw : Region.wanted o (yielded ops a.tmps) = false) (h : wpT P ops Q rest (a.put o.dst undef) w) : wpT P ops Q ((i, m) :: rest) a w :=
  ⟨o, ho, by rw [if_neg (by rw [hw]; exact Bool.false_ne_true)]; exact h⟩
theorem wpT_pure (ho : ops[i]? = some o) (hw : Region.wanted o (yielded ops a.tmps) = true) (hv : ∀ x, (execOp a.eval o).run P x = .ok (.value v) x) (h : wpT P ops Q rest (a.put o.dst v) w) : wpT P ops Q ((i, 1) :: rest) a w :=
  ⟨o, ho, by rw [if_pos hw]; exact ⟨v, hv, h⟩⟩
theorem wpT_read (ho : ops[i]? = some o) (hw : Region.wanted o (yielded ops a.tmps) = true) (hv : ∀ x, From w x → (execOp a.eval o).run P x = .ok (.value v) x) (h : wpT P ops Q rest (a.put o.dst v) w) : wpT P ops Q ((i, 0) :: rest) a w :=
  ⟨o, ho, by rw [if_pos hw]; exact ⟨v, hv, h⟩⟩
theorem wpT_call (ho : ops[i]? = some o) (hw : Region.wanted o (yielded ops a.tmps) = true) (h : ∀ K : Act → World → Prop, (∀ a' w', FromT w w' (wpT P ops Q rest a' w') → K a' w') → o.wp P a w K Q) : wpT P ops Q ((i, 2) :: rest) a w :=
  ⟨o, ho, by rw [if_pos hw]; exact h _ (fun _ _ h => h)⟩
theorem wpT_late (ho : ops[i]? = some o) (hw : Region.wanted o (yielded ops a.tmps) = true) (h : ∀ K : Act → World → Prop, (∀ a' w', wpT P ops Q rest a' w' → K a' w') → o.wp P a w K Q) : wpT P ops Q ((i, 3) :: rest) a w :=
  ⟨o, ho, by rw [if_pos hw]; exact h _ (fun _ _ h => h)⟩
theorem wpT_any (ho : ops[i]? = some o) (hw : Region.wanted o (yielded ops a.tmps) = true) (h : ∀ K : Act → World → Prop, (∀ a' w', wpT P ops Q rest a' w' → K a' w') → o.wp P a w K Q) : wpT P ops Q ((i, 4) :: rest) a w :=
  ⟨o, ho, by rw [if_pos hw]; exact h _ (fun _ _ h => h)⟩
end

/-! What only reads reads the same in every later world. -/
section
variable {P : Program} {α β : Type}
def readB (P : Program) : Sem α → Prop
  | .pure _ => True
  | .load _ _ k => ∀ v, readB P (k v)
  | .program k => readB P (k P)
  | .mark _ k => readB P k
  | .halt _ => True
  | _ => False
theorem readB_bind {s : Sem α} {f : α → Sem β} (h : readB P s) (hf : ∀ v, readB P (f v)) : readB P (s.bind f) := by
  induction s with
  | pure a => exact hf a
  | load m a k ih => exact fun v => ih v (h v)
  | program k ih => exact ih P h
  | mark m k ih => exact ih h
  | halt x => trivial
  | store m a v k ih => exact h.elim
  | new o k ih => exact h.elim
  | shape r k ih => exact h.elim
  | freeze a n k ih => exact h.elim
  | frozen a k ih => exact h.elim
  | getObj r k ih => exact h.elim
  | setObj r o k ih => exact h.elim
  | choose q k ih => exact h.elim
  | sys c k ih => exact h.elim
theorem farLoad_stable {w x : World} (hx : From w x) {a : Addr} {b : Bool} {r : Value × List Addr} (h : w.farLoad P a b = .ok r) : x.cell? a = w.cell? a ∧ x.farLoad P a b = .ok r := by
  unfold World.farLoad at h ⊢
  cases hh : w.heap[a.block]? with
  | none => rw [hh] at h; cases h
  | some ob =>
    have hlt : a.block < w.heap.size := (Array.getElem?_eq_some_iff.1 hh).1
    have he : x.heap[a.block]? = some ob := (hx.block _ hlt).trans hh
    refine ⟨World.cell?_of_block (he.trans hh.symm), ?_⟩
    rw [he]
    rw [hh] at h
    cases ob with
    | view at_ u =>
      simp only at h ⊢
      have key : ∀ r, w.viewLoad P at_ u a b = .ok r → x.viewLoad P at_ u a b = .ok r := by
        intro r hr
        rcases Nat.lt_or_ge at_.block w.heap.size with hl | hl
        · have e : x.seen P at_ u a b = w.seen P at_ u a b := by unfold World.seen; rw [hx.block _ hl]
          unfold World.viewLoad at hr ⊢
          rw [e]
          exact hr
        · exfalso
          have hn : w.heap[at_.block]? = none := Array.getElem?_eq_none hl
          have : ∃ e, w.seen P at_ u a b = .error e := by
            unfold World.seen
            rw [hn]
            simp only [bind, Except.bind, throw, throwThe, MonadExceptOf.throw, pure, Except.pure]
            repeat' split
            all_goals first | exact ⟨_, rfl⟩ | (rename_i h0; simp at h0)
          obtain ⟨e, he⟩ := this
          unfold World.viewLoad at hr
          rw [he] at hr
          cases hr
      cases hv : w.viewLoad P at_ u a b with
      | error e => rw [hv] at h; cases h
      | ok r' => rw [hv] at h; rw [key r' hv]; exact h
    | _ => cases h
theorem readB_run : ∀ (s : Sem α), readB P s → ∀ {w w' : World} {v : α}, s.run P w = .ok v w' → w' = w ∧ ∀ x, From w x → s.run P x = .ok v x := by
  intro s
  induction s with
  | pure a => intro _ w w' v h; injection h with h1 h2; exact ⟨h2.symm, fun x _ => by rw [← h1]; rfl⟩
  | load m a k ih =>
    intro hr w w' v h
    unfold Sem.run at h
    cases hc : w.cell? a with
    | some u =>
      rw [hc] at h
      obtain ⟨e, hx⟩ := ih u (hr u) h
      refine ⟨e, fun x hf => ?_⟩
      unfold Sem.run
      rw [hf.cell (block_lt_of_cell hc), hc]
      exact hx x hf
    | none =>
      rw [hc] at h
      simp only at h
      cases hl : w.farLoad P a (m == .atomic) with
      | error e => rw [hl] at h; cases h
      | ok r =>
        obtain ⟨u, l⟩ := r
        rw [hl] at h
        obtain ⟨e, hx⟩ := ih u (hr u) h
        refine ⟨e, fun x hf => ?_⟩
        obtain ⟨h1, h2⟩ := farLoad_stable hf hl
        unfold Sem.run
        rw [h1, hc]
        simp only
        rw [h2]
        exact hx x hf
  | program k ih => intro hr w w' v h; exact ih P hr h
  | mark m k ih => intro hr w w' v h; exact ih hr h
  | halt e => intro _ w w' v h; cases h
  | store m a v k ih => intro hr; exact hr.elim
  | new o k ih => intro hr; exact hr.elim
  | shape r k ih => intro hr; exact hr.elim
  | freeze a n k ih => intro hr; exact hr.elim
  | frozen a k ih => intro hr; exact hr.elim
  | getObj r k ih => intro hr; exact hr.elim
  | setObj r o k ih => intro hr; exact hr.elim
  | choose q k ih => intro hr; exact hr.elim
  | sys c k ih => intro hr; exact hr.elim
theorem readB_pure {v : α} : readB P (pure v : Sem α) := trivial
theorem readB_bind' {s : Sem α} {f : α → Sem β} (h : readB P s) (hf : ∀ v, readB P (f v)) : readB P (s >>= f) := readB_bind h hf
theorem readB_underlying (t : TypeId) : readB P (underlying t) := by
  unfold underlying
  refine readB_bind' (s := program) (by trivial) fun p => ?_
  cases p.underlying t <;> trivial
theorem readB_typeInfo (t : TypeId) : readB P (typeInfo t) := by
  unfold typeInfo
  refine readB_bind' (s := program) (by trivial) fun p => ?_
  cases p.info? t <;> trivial
theorem readB_sizeOf (t : TypeId) : readB P (sizeOf t) := readB_bind' (readB_typeInfo t) fun _ => trivial
theorem readB_cells (a : Addr) : ∀ (n i : Nat) (acc : Array Value), readB P (loadCellsFrom a i n acc)
  | 0, _, _ => trivial
  | n + 1, i, acc => readB_bind' (s := load (a.add i)) (fun _ => trivial) fun v => readB_cells a n (i + 1) (acc.push v)
theorem readB_loadVar (t : TypeId) (a : Addr) : readB P (loadVar t a) := by
  unfold loadVar
  refine readB_bind' (s := isAgg t) ?_ fun b => ?_
  · unfold isAgg
    refine readB_bind' (readB_underlying t) fun d => ?_
    cases d <;> trivial
  · cases b
    · exact fun _ => trivial
    · exact readB_bind' (readB_sizeOf t) fun n => readB_bind' (s := loadCells a n) (readB_cells a n 0 #[]) fun _ => trivial
theorem readB_loadAt (t : TypeId) (p : Value) : readB P (Instr.loadAt t p) := by
  unfold Instr.loadAt
  refine readB_bind' (s := Instr.sureAddr p) ?_ fun a => readB_loadVar t a
  unfold Instr.sureAddr
  split <;> trivial
end
section
variable {P : Program} {ops : Array Oper} {Q : Exit → Act → World → Prop} {i : Nat} {o : Oper} {rest : List (Nat × Nat)} {a : Act} {w : World} {v : Value}
theorem wpT_load {t : TypeId} {x : Operand} (ho : ops[i]? = some o) (hop : o.op = .load t x) (hw : Region.wanted o (yielded ops a.tmps) = true) (hv : (execOp a.eval o).run P w = .ok (.value v) w) (h : wpT P ops Q rest (a.put o.dst v) w) : wpT P ops Q ((i, 0) :: rest) a w := by
  refine wpT_read ho hw (fun y hy => ?_) h
  have hr : readB P (execOp a.eval o) := by
    unfold execOp
    rw [hop]
    exact readB_bind' (readB_loadAt t _) fun _ => trivial
  exact (readB_run _ hr hv).2 y hy
end
end Go.Proofs.Ythpioncehigoaaa
