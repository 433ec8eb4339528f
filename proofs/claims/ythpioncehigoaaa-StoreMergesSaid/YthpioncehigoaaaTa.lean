/-
  Terms as a tree: what a value of the type Term reads as; the order of terms as a plain function; it is an order.
-/
import Derived.Test.YthpioncehigoaaaRl
import Derived.Test.YthpioncehigoaaaOq
import Derived.Test.YthpioncehigoaaaNm
import Derived.Test.YthpioncehigoaaaChecked
set_option linter.unusedVariables false
namespace Go.Proofs.Ythpioncehigoaaa
open Go.RowKit
set_option linter.unusedSimpArgs false

/-- A cell of a row that is read. -/
theorem rd_at {w : World} {B : Option Addr} {n d sz : Nat} {xs : List Value} {k : Nat} {u : Value} (h : Rd w (.slice B n d) sz n xs) (hk : xs[k]? = some u) : ∃ b o, B = some ⟨b, o, none⟩ ∧ b < w.heap.size ∧ w.cell? ⟨b, o + k, none⟩ = some u := by
  rcases h.cases with ⟨_, _, h0⟩ | ⟨b, o, sp, c', hv, hb, _, _, hl, h4, hc⟩
  · rw [h0] at hk; simp at hk
  · injection hv with hv1 _ _
    have hkl : k < xs.length := (List.getElem?_eq_some_iff.1 hk).1
    have := h4 (by omega)
    subst this hv1
    exact ⟨b, o, rfl, hb (by omega), hc k u hk⟩
/-- A term, with the place of its row. -/
inductive Tm where
  | mk (k n : Int) (s : List UInt8) (A : Option Addr) (c : Nat) (l : List Tm)
namespace Tm
def k : Tm → Int | .mk k _ _ _ _ _ => k
def n : Tm → Int | .mk _ n _ _ _ _ => n
def s : Tm → List UInt8 | .mk _ _ s _ _ _ => s
def A : Tm → Option Addr | .mk _ _ _ A _ _ => A
def c : Tm → Nat | .mk _ _ _ _ c _ => c
def l : Tm → List Tm | .mk _ _ _ _ _ l => l
/-- The row. -/
def row (t : Tm) : Value := .slice t.A t.l.length t.c
def cells (t : Tm) : List Value := [.int .i64 t.k, .int .i64 t.n, .string (strOf t.s), t.row]
/-- The term as a value. -/
def val (t : Tm) : Value := .agg #[.int .i64 t.k, .int .i64 t.n, .string (strOf t.s), t.row]
theorem cells_length (t : Tm) : t.cells.length = 4 := rfl
theorem eta (t : Tm) : .mk t.k t.n t.s t.A t.c t.l = t := by cases t; rfl
end Tm
def tmCells (l : List Tm) : List Value := l.flatMap Tm.cells
theorem tmCells_length (l : List Tm) : (tmCells l).length = l.length * 4 := flat_len Tm.cells 4 Tm.cells_length l
def TmBd (t : Tm) : Prop := I64 t.k ∧ I64 t.n ∧ t.s.length ≤ 9223372036854775807 ∧ t.l.length ≤ 140737488351232
/-- What world W holds reads as this term. -/
inductive TmOK (W : World) : Tm → Prop where
  | mk (t : Tm) (hr : Rd W t.row 4 t.l.length (tmCells t.l)) (hb : TmBd t) (hl : ∀ x ∈ t.l, TmOK W x) : TmOK W t
theorem TmOK.rd {W : World} {t : Tm} (h : TmOK W t) : Rd W t.row 4 t.l.length (tmCells t.l) := by cases h; assumption
theorem TmOK.bd {W : World} {t : Tm} (h : TmOK W t) : TmBd t := by cases h; assumption
theorem TmOK.kid {W : World} {t x : Tm} (h : TmOK W t) (hx : x ∈ t.l) : TmOK W x := by
  cases h with
  | mk _ _ _ hl => exact hl x hx
theorem TmOK.on {W W' : World} {t : Tm} (h : TmOK W t) (hb : Below W.heap.size W W') : TmOK W' t := by
  induction h with
  | mk t hr hbd _ ih => exact .mk t (hr.below hb) hbd ih
/-- A row of terms. -/
def TmsAt (W : World) (v : Value) (l : List Tm) : Prop := Rd W v 4 l.length (tmCells l) ∧ ∀ x ∈ l, TmOK W x
theorem TmsAt.on {W W' : World} {v : Value} {l : List Tm} (h : TmsAt W v l) (hb : Below W.heap.size W W') : TmsAt W' v l := ⟨h.1.below hb, fun x hx => (h.2 x hx).on hb⟩
theorem TmOK.row {W : World} {t : Tm} (h : TmOK W t) : TmsAt W t.row t.l := ⟨h.rd, fun _ hx => h.kid hx⟩

/-- Texts: ahead, the same, behind. -/
def cmpS (a b : List UInt8) : Int := if Op.bytesLess a b = true then -1 else if Op.bytesLess b a = true then 1 else 0
def cmpI (a b : Int) : Int := if a < b then -1 else if b < a then 1 else 0
/-- The first that isn't nothing. -/
def orI (a b : Int) : Int := if a = 0 then b else a
def cmp0 (a b : Tm) : Int := orI (cmpI a.k b.k) (orI (cmpI a.n b.n) (cmpS a.s b.s))
def cmpL {α : Type} (f : α → α → Int) : List α → List α → Int
  | [], [] => 0
  | [], _ :: _ => -1
  | _ :: _, [] => 1
  | x :: a, y :: b => orI (f x y) (cmpL f a b)
def cmpT : Nat → Tm → Tm → Int
  | 0, a, b => cmp0 a b
  | d + 1, a, b => orI (cmp0 a b) (cmpL (cmpT d) a.l b.l)

/-- What an order answers. -/
structure IsOrd {α : Type} (f : α → α → Int) : Prop where
  tri : ∀ a b, f a b = -1 ∨ f a b = 0 ∨ f a b = 1
  anti : ∀ a b, f a b = - f b a
  lt : ∀ a b c, f a b ≤ 0 → f b c ≤ 0 → f a c ≤ 0
  lt' : ∀ a b c, f a b ≤ 0 → f b c ≤ 0 → f a c = 0 → f a b = 0 ∧ f b c = 0
theorem IsOrd.self {α : Type} {f : α → α → Int} (h : IsOrd f) (a : α) : f a a = 0 := by have := h.anti a a; omega
theorem IsOrd.eq_l {α : Type} {f : α → α → Int} (h : IsOrd f) {a b : α} (e : f a b = 0) (c : α) : f a c = f b c := by
  have h1 := h.lt a b c
  have h2 := h.lt c b a
  have h3 := h.lt b a c
  have h4 := h.lt c a b
  have a1 := h.anti a b
  have a2 := h.anti a c
  have a3 := h.anti b c
  have t1 := h.tri a c
  have t2 := h.tri b c
  have l1 := h.lt' a b c
  have l2 := h.lt' c b a
  have l3 := h.lt' b a c
  have l4 := h.lt' c a b
  omega
theorem IsOrd.eq_r {α : Type} {f : α → α → Int} (h : IsOrd f) {a b : α} (e : f a b = 0) (c : α) : f c a = f c b := by
  rw [h.anti c a, h.anti c b, h.eq_l e]
/-- One order behind the other. -/
theorem IsOrd.or {α : Type} {f g : α → α → Int} (hf : IsOrd f) (hg : IsOrd g) : IsOrd (fun a b => orI (f a b) (g a b)) := by
  refine ⟨fun a b => ?_, fun a b => ?_, fun a b c => ?_, fun a b c => ?_⟩ <;> simp only [orI]
  · have := hf.tri a b
    have := hg.tri a b
    split <;> omega
  · have := hf.anti a b
    have := hg.anti a b
    split <;> split <;> omega
  · have e1 := hf.lt a b c
    have e2 := hf.lt' a b c
    have e3 := hg.lt a b c
    have t := hf.tri a b
    have t' := hf.tri b c
    have t2 := hf.tri a c
    have z := hf.lt c b a
    have z1 := hf.anti a b
    have z2 := hf.anti b c
    have z3 := hf.anti a c
    intro h1 h2
    by_cases p : f a b = 0 <;> by_cases q : f b c = 0 <;> by_cases r : f a c = 0 <;> simp only [p, q, r, if_true, if_false] at h1 h2 ⊢ <;> omega
  · have e1 := hf.lt a b c
    have e2 := hf.lt' a b c
    have e3 := hg.lt a b c
    have e4 := hg.lt' a b c
    have t := hf.tri a b
    have t' := hf.tri b c
    have t2 := hf.tri a c
    have z := hf.lt c b a
    have z1 := hf.anti a b
    have z2 := hf.anti b c
    have z3 := hf.anti a c
    intro h1 h2 h3
    by_cases p : f a b = 0 <;> by_cases q : f b c = 0 <;> by_cases r : f a c = 0 <;> simp only [p, q, r, if_true, if_false] at h1 h2 h3 ⊢ <;> omega
theorem IsOrd.via {α β : Type} {f : α → α → Int} (h : IsOrd f) (g : β → α) : IsOrd (fun a b => f (g a) (g b)) :=
  ⟨fun a b => h.tri _ _, fun a b => h.anti _ _, fun a b c => h.lt _ _ _, fun a b c => h.lt' _ _ _⟩
theorem cmpI_ord : IsOrd cmpI := by
  refine ⟨fun a b => ?_, fun a b => ?_, fun a b c => ?_, fun a b c => ?_⟩ <;> simp only [cmpI] <;> (repeat' split) <;> omega
theorem bl_irr : ∀ a : List UInt8, Op.bytesLess a a = false
  | [] => rfl
  | x :: a => by
    have e : decide (x < x) = false := decide_eq_false (by rw [UInt8.lt_iff_toNat_lt]; omega)
    rw [Op.bytesLess, bl_irr a, e]
    simp
theorem bl_cons (x y : UInt8) (a b : List UInt8) : Op.bytesLess (x :: a) (y :: b) = true ↔ x.toNat < y.toNat ∨ (x.toNat = y.toNat ∧ Op.bytesLess a b = true) := by
  rw [Op.bytesLess, Bool.or_eq_true, Bool.and_eq_true, decide_eq_true_iff, beq_iff_eq, UInt8.lt_iff_toNat_lt, ← UInt8.toNat_inj]
theorem bl_tri : ∀ a b : List UInt8, Op.bytesLess a b = true ∨ a = b ∨ Op.bytesLess b a = true
  | [], [] => .inr (.inl rfl)
  | [], _ :: _ => .inl rfl
  | _ :: _, [] => .inr (.inr rfl)
  | x :: a, y :: b => by
    rw [bl_cons, bl_cons]
    rcases bl_tri a b with h | h | h
    · by_cases e : x.toNat = y.toNat
      · exact .inl (.inr ⟨e, h⟩)
      · by_cases e2 : x.toNat < y.toNat
        · exact .inl (.inl e2)
        · exact .inr (.inr (.inl (by omega)))
    · by_cases e : x.toNat = y.toNat
      · exact .inr (.inl (by rw [UInt8.toNat_inj.1 e, h]))
      · by_cases e2 : x.toNat < y.toNat
        · exact .inl (.inl e2)
        · exact .inr (.inr (.inl (by omega)))
    · by_cases e : x.toNat = y.toNat
      · exact .inr (.inr (.inr ⟨e.symm, h⟩))
      · by_cases e2 : x.toNat < y.toNat
        · exact .inl (.inl e2)
        · exact .inr (.inr (.inl (by omega)))
theorem bl_trans : ∀ a b c : List UInt8, Op.bytesLess a b = true → Op.bytesLess b c = true → Op.bytesLess a c = true
  | [], _, [], h, h' => by
    rename_i b
    cases b <;> simp [Op.bytesLess] at h h'
  | [], _, _ :: _, _, _ => rfl
  | _ :: _, [], _, h, _ => by simp [Op.bytesLess] at h
  | _ :: _, _ :: _, [], _, h => by simp [Op.bytesLess] at h
  | x :: a, y :: b, z :: c, h, h' => by
    rw [bl_cons] at h h' ⊢
    rcases h with h | ⟨h1, h2⟩ <;> rcases h' with h' | ⟨h3, h4⟩
    · exact .inl (by omega)
    · exact .inl (by omega)
    · exact .inl (by omega)
    · exact .inr ⟨by omega, bl_trans a b c h2 h4⟩
theorem cmpS_lt {a b : List UInt8} : cmpS a b = -1 ↔ Op.bytesLess a b = true := by
  unfold cmpS
  constructor
  · intro h
    split at h
    · assumption
    · split at h <;> omega
  · intro h
    rw [if_pos h]
theorem bl_no {a b : List UInt8} (h : Op.bytesLess a b = true) : ¬ Op.bytesLess b a = true := fun h' => by
  have := bl_trans a b a h h'
  rw [bl_irr] at this
  exact Bool.false_ne_true this
theorem cmpS_gt {a b : List UInt8} : cmpS a b = 1 ↔ Op.bytesLess b a = true := by
  unfold cmpS
  constructor
  · intro h
    split at h
    · omega
    · split at h
      · assumption
      · omega
  · intro h
    rw [if_neg (bl_no h), if_pos h]
theorem cmpS_eq {a b : List UInt8} : cmpS a b = 0 ↔ a = b := by
  constructor
  · intro h
    rcases bl_tri a b with h' | h' | h'
    · rw [cmpS_lt.2 h'] at h; omega
    · exact h'
    · rw [cmpS_gt.2 h'] at h; omega
  · intro h
    rw [h]
    unfold cmpS
    rw [bl_irr]
    rfl
theorem cmpS_ord : IsOrd cmpS := by
  have tri : ∀ a b, cmpS a b = -1 ∨ cmpS a b = 0 ∨ cmpS a b = 1 := fun a b => by
    unfold cmpS
    split
    · omega
    · split <;> omega
  have le : ∀ a b, cmpS a b ≤ 0 → a = b ∨ Op.bytesLess a b = true := fun a b h => by
    rcases bl_tri a b with h' | h' | h'
    · exact .inr h'
    · exact .inl h'
    · rw [cmpS_gt.2 h'] at h; omega
  refine ⟨tri, fun a b => ?_, fun a b c h1 h2 => ?_, fun a b c h1 h2 h3 => ?_⟩
  · rcases bl_tri a b with h' | h' | h'
    · rw [cmpS_lt.2 h', cmpS_gt.2 h']
    · rw [h', cmpS_eq.2 rfl]; rfl
    · rw [cmpS_lt.2 h', cmpS_gt.2 h']; rfl
  · rcases le a b h1 with rfl | h
    · exact h2
    · rcases le b c h2 with rfl | h'
      · exact h1
      · rw [cmpS_lt.2 (bl_trans a b c h h')]; omega
  · rcases le a b h1 with rfl | h
    · exact ⟨cmpS_eq.2 rfl, h3⟩
    · rcases le b c h2 with rfl | h'
      · exact ⟨h3, cmpS_eq.2 rfl⟩
      · rw [cmpS_lt.2 (bl_trans a b c h h')] at h3
        omega
theorem cmpL_ord {α : Type} {f : α → α → Int} (hf : IsOrd f) : IsOrd (cmpL f) := by
  have tri : ∀ a b, cmpL f a b = -1 ∨ cmpL f a b = 0 ∨ cmpL f a b = 1 := by
    intro a
    induction a with
    | nil => intro b; cases b <;> simp [cmpL]
    | cons x a ih =>
      intro b
      cases b with
      | nil => simp [cmpL]
      | cons y b =>
        rw [cmpL, orI]
        have := hf.tri x y
        have := ih b
        split <;> omega
  have anti : ∀ a b, cmpL f a b = - cmpL f b a := by
    intro a
    induction a with
    | nil => intro b; cases b <;> simp [cmpL]
    | cons x a ih =>
      intro b
      cases b with
      | nil => simp [cmpL]
      | cons y b =>
        rw [cmpL, cmpL, orI, orI]
        have := hf.anti x y
        have := ih b
        split <;> split <;> omega
  have both : ∀ a b c, (cmpL f a b ≤ 0 → cmpL f b c ≤ 0 → cmpL f a c ≤ 0) ∧ (cmpL f a b ≤ 0 → cmpL f b c ≤ 0 → cmpL f a c = 0 → cmpL f a b = 0 ∧ cmpL f b c = 0) := by
    intro a
    induction a with
    | nil => intro b c; cases b <;> cases c <;> simp [cmpL]
    | cons x a ih =>
      intro b c
      cases b with
      | nil => cases c <;> simp [cmpL]
      | cons y b =>
        cases c with
        | nil => simp [cmpL]
        | cons z c =>
          rw [cmpL, cmpL, cmpL, orI, orI, orI]
          have e1 := hf.lt x y z
          have e2 := hf.lt' x y z
          have t := hf.tri x y
          have t' := hf.tri y z
          have t2 := hf.tri x z
          have u := hf.lt z y x
          have z1 := hf.anti x y
          have z2 := hf.anti y z
          have z3 := hf.anti x z
          obtain ⟨i1, i2⟩ := ih b c
          refine ⟨fun h1 h2 => ?_, fun h1 h2 h3 => ?_⟩
          · by_cases p : f x y = 0 <;> by_cases q : f y z = 0 <;> by_cases r : f x z = 0 <;> simp only [p, q, r, if_true, if_false] at h1 h2 ⊢ <;> omega
          · by_cases p : f x y = 0 <;> by_cases q : f y z = 0 <;> by_cases r : f x z = 0 <;> simp only [p, q, r, if_true, if_false] at h1 h2 h3 ⊢ <;> omega
  exact ⟨tri, anti, fun a b c => (both a b c).1, fun a b c => (both a b c).2⟩
theorem cmp0_ord : IsOrd cmp0 := (cmpI_ord.via Tm.k).or ((cmpI_ord.via Tm.n).or (cmpS_ord.via Tm.s))
theorem cmpT_ord : ∀ d, IsOrd (cmpT d)
  | 0 => cmp0_ord
  | d + 1 => cmp0_ord.or ((cmpL_ord (cmpT_ord d)).via Tm.l)
end Go.Proofs.Ythpioncehigoaaa
