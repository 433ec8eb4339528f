/-
  Layer 18: facts; how they lie in memory; a world of which some blocks are not looked at; the order of facts.
-/
import Derived.Test.YthpioncehigoaaaFt
import Derived.Test.YthpioncehigoaaaTj
import Derived.Test.YthpioncehigoaaaTi
set_option linter.unusedVariables false
namespace Go.Proofs.Ythpioncehigoaaa
open Go.RowKit
set_option linter.unusedSimpArgs false

/-- A fact, with the place of its terms. -/
structure Fc where
  name : List UInt8
  A : Option Addr
  c : Nat
  ts : List Tm
  o : Int
namespace Fc
def row (f : Fc) : Value := .slice f.A f.ts.length f.c
def cells (f : Fc) : List Value := [.string (strOf f.name), f.row, .int .u32 f.o]
def val (f : Fc) : Value := .agg #[.string (strOf f.name), f.row, .int .u32 f.o]
theorem cells_length (f : Fc) : f.cells.length = 3 := rfl
end Fc
def fcCells (l : List Fc) : List Value := l.flatMap Fc.cells
theorem fcCells_length (l : List Fc) : (fcCells l).length = l.length * 3 := flat_len Fc.cells 3 Fc.cells_length l
theorem fcCells_append (l m : List Fc) : fcCells (l ++ m) = fcCells l ++ fcCells m := by unfold fcCells; rw [List.flatMap_append]
theorem fcCells_cons (f : Fc) (l : List Fc) : fcCells (f :: l) = f.cells ++ fcCells l := by unfold fcCells; rw [List.flatMap_cons]
theorem Fc.one (f : Fc) : ∀ v ∈ f.cells, v.oneCell' = true := by
  intro v hv
  unfold Fc.cells Fc.row at hv
  simp only [List.mem_cons, List.not_mem_nil, or_false] at hv
  rcases hv with rfl | rfl | rfl <;> rfl
theorem fcCells_one (l : List Fc) : ∀ u ∈ fcCells l, u.oneCell' = true := by
  intro u hu
  unfold fcCells at hu
  obtain ⟨t, _, ht⟩ := List.mem_flatMap.1 hu
  exact t.one u ht
def U32 (n : Int) : Prop := 0 ≤ n ∧ n ≤ 4294967295
def FcBd (f : Fc) : Prop := f.name.length ≤ 9223372036854775807 ∧ f.ts.length ≤ 140737488351232 ∧ U32 f.o
/-- What world W holds reads as this fact. -/
structure FcOK (W : World) (f : Fc) : Prop where
  ts : TmsAt W f.row f.ts
  bd : FcBd f
theorem FcOK.on {W W' : World} {f : Fc} (h : FcOK W f) (hb : Below W.heap.size W W') : FcOK W' f := ⟨h.ts.on hb, h.bd⟩
/-- A row of facts. -/
def FcsAt (W : World) (v : Value) (l : List Fc) : Prop := Rd W v 3 l.length (fcCells l) ∧ ∀ f ∈ l, FcOK W f
theorem FcsAt.on {W W' : World} {v : Value} {l : List Fc} (h : FcsAt W v l) (hb : Below W.heap.size W W') : FcsAt W' v l := ⟨h.1.below hb, fun f hf => (h.2 f hf).on hb⟩
theorem fcCells_at {l : List Fc} {k j : Nat} {f : Fc} (h : l[k]? = some f) (hj : j < 3) : (fcCells l)[k * 3 + j]? = f.cells[j]? := flat_at Fc.cells 3 Fc.cells_length l k j f h hj
/-- The cells of the k-th fact of a row. -/
theorem fc_at {w : World} {B : Option Addr} {n d : Nat} {l : List Fc} {k : Nat} {f : Fc} (h : Rd w (.slice B n d) 3 n (fcCells l)) (hk : l[k]? = some f) : ∃ b o, B = some ⟨b, o, none⟩ ∧ b < w.heap.size ∧
    w.cell? ⟨b, o + k * 3, none⟩ = some (.string (strOf f.name)) ∧ w.cell? ⟨b, o + k * 3 + 1, none⟩ = some f.row ∧ w.cell? ⟨b, o + k * 3 + 2, none⟩ = some (.int .u32 f.o) := by
  obtain ⟨b, o, rfl, hb, h0⟩ := rd_at h (k := k * 3) (u := .string (strOf f.name)) ((fcCells_at (j := 0) hk (by omega)).trans rfl)
  have get : ∀ j u, j < 3 → f.cells[j]? = some u → w.cell? ⟨b, o + k * 3 + j, none⟩ = some u := fun j u hj hu => by
    obtain ⟨b', o', e, _, h1⟩ := rd_at h (k := k * 3 + j) (u := u) ((fcCells_at hk hj).trans hu)
    injection e with e
    injection e with e1 e2 _
    subst e1 e2
    rw [Nat.add_assoc]
    exact h1
  exact ⟨b, o, rfl, hb, get 0 _ (by omega) rfl, get 1 _ (by omega) rfl, get 2 _ (by omega) rfl⟩

/-! A world with fewer cells. -/
def CSub (V W : World) : Prop := ∀ a u, V.cell? a = some u → W.cell? a = some u
theorem CSub.refl (W : World) : CSub W W := fun _ _ h => h
theorem CSub.trans {A B C : World} (h : CSub A B) (k : CSub B C) : CSub A C := fun a u x => k a u (h a u x)
theorem Rd.csub {V W : World} {v : Value} {size n : Nat} {xs : List Value} (h : Rd V v size n xs) (hs : CSub V W) : Rd W v size n xs := by
  obtain ⟨A, c, rfl, h1, h2, h3, h4, h5⟩ := h
  exact ⟨A, c, rfl, h1, h2, h3, h4, fun b o sp hA => ⟨(h5 b o sp hA).1, fun j u hu => hs _ _ ((h5 b o sp hA).2 j u hu)⟩⟩
theorem TmOK.csub {V W : World} {t : Tm} (h : TmOK V t) (hs : CSub V W) : TmOK W t := by
  induction h with
  | mk t hr hbd _ ih => exact .mk t (hr.csub hs) hbd ih
theorem TmsAt.csub {V W : World} {v : Value} {l : List Tm} (h : TmsAt V v l) (hs : CSub V W) : TmsAt W v l := ⟨h.1.csub hs, fun x hx => (h.2 x hx).csub hs⟩
theorem FcOK.csub {V W : World} {f : Fc} (h : FcOK V f) (hs : CSub V W) : FcOK W f := ⟨h.ts.csub hs, h.bd⟩
theorem csub_of_below {W W' : World} (hb : Below W.heap.size W W') : CSub W W' := fun a u h => by
  have hlt : a.block < W.heap.size := World.block_lt_of_cell? W a h
  rw [World.cell?_of_block (w := W) (hb.block a.block hlt)]
  exact h
open Classical in
/-- The blocks of M not looked at. -/
noncomputable def mask (M : Nat → Prop) (W : World) : World := { W with heap := W.heap.mapIdx (fun k o => if M k then .cells #[] 0 else o) }
theorem mask_in {M : Nat → Prop} {W : World} {k : Nat} (h : ¬ M k) : (mask M W).heap[k]? = W.heap[k]? := by
  unfold mask
  simp only [Array.getElem?_mapIdx]
  cases W.heap[k]? with
  | none => rfl
  | some o => simp [h]
theorem mask_out {M : Nat → Prop} {W : World} {a : Addr} (h : M a.block) : (mask M W).cell? a = none := by
  have e : (mask M W).heap[a.block]? = (W.heap[a.block]?).map (fun _ => Obj.cells #[] 0) := by
    unfold mask
    simp only [Array.getElem?_mapIdx]
    cases W.heap[a.block]? with
    | none => rfl
    | some o => simp [h]
  cases hw : W.heap[a.block]? with
  | none =>
    rw [hw] at e
    unfold World.cell?
    rw [e]
    rfl
  | some o =>
    rw [hw] at e
    unfold World.cell?
    rw [e]
    cases a.spot <;> simp
theorem mask_cell {M : Nat → Prop} {W : World} {a : Addr} {u : Value} : (mask M W).cell? a = some u ↔ ¬ M a.block ∧ W.cell? a = some u := by
  by_cases h : M a.block
  · rw [mask_out h]
    constructor
    · intro e; cases e
    · intro e; exact absurd h e.1
  · rw [World.cell?_of_block (w := W) (mask_in h)]
    exact ⟨fun e => ⟨h, e⟩, fun e => e.2⟩
theorem csub_mask (M : Nat → Prop) (W : World) : CSub (mask M W) W := fun _ _ h => (mask_cell.1 h).2
/-- What is looked at has not changed, and is looked at on. -/
theorem mask_ext {M M' : Nat → Prop} {W W' : World} (h : ∀ k, k < W.heap.size → ¬ M k → ¬ M' k ∧ W'.heap[k]? = W.heap[k]?) : CSub (mask M W) (mask M' W') := fun a u hc => by
  obtain ⟨h1, h2⟩ := mask_cell.1 hc
  obtain ⟨h3, h4⟩ := h a.block (World.block_lt_of_cell? W a h2) h1
  exact mask_cell.2 ⟨h3, by rw [World.cell?_of_block (w := W) h4]; exact h2⟩
/-- A world from which all that may be written came later. -/
theorem mask_old {M : Nat → Prop} {W W' : World} (hb : Below W.heap.size W W') (hM : ∀ k, M k → W.heap.size ≤ k) : CSub W (mask M W') := fun a u hc => by
  have hlt := World.block_lt_of_cell? W a hc
  exact mask_cell.2 ⟨fun hm => by have := hM _ hm; omega, by rw [World.cell?_of_block (w := W) (hb.block a.block hlt)]; exact hc⟩

/-! The order of facts. -/
def cmpF (f g : Fc) : Int := orL [cmpS f.name g.name, cmpI (f.ts.length : Int) (g.ts.length : Int), cmpL cmpA f.ts g.ts, cmpI f.o g.o]
theorem orL4 (a b c d : Int) : orL [a, b, c, d] = orI a (orI b (orI c d)) := by
  unfold orL orL orL orL orL orI
  by_cases ha : a = 0 <;> by_cases hb : b = 0 <;> by_cases hc : c = 0 <;> by_cases hd : d = 0 <;> simp [ha, hb, hc, hd]
theorem cmpF_ord : IsOrd cmpF := by
  have h : IsOrd (fun f g : Fc => orI (cmpS f.name g.name) (orI (cmpI (f.ts.length : Int) (g.ts.length : Int)) (orI (cmpL cmpA f.ts g.ts) (cmpI f.o g.o)))) :=
    (cmpS_ord.via Fc.name).or ((cmpI_ord.via (fun f : Fc => (f.ts.length : Int))).or (((cmpL_ord cmpA_ord).via Fc.ts).or (cmpI_ord.via Fc.o)))
  have e : cmpF = (fun f g : Fc => orI (cmpS f.name g.name) (orI (cmpI (f.ts.length : Int) (g.ts.length : Int)) (orI (cmpL cmpA f.ts g.ts) (cmpI f.o g.o)))) := by
    funext f g
    exact orL4 _ _ _ _
  rw [e]
  exact h

/-! Facts without their places. -/
def shT (t : Tm) : Tm := .mk t.k t.n t.s none 0 t.l
def shF (f : Fc) : Fc := ⟨f.name, none, 0, f.ts.map shT, f.o⟩
theorem shT_shT (t : Tm) : shT (shT t) = shT t := rfl
theorem cmpT_sh (d : Nat) (t u : Tm) : cmpT d (shT t) (shT u) = cmpT d t u := by cases d <;> rfl
theorem cmpL_sh : ∀ (a b : List Tm), cmpL cmpA (a.map shT) (b.map shT) = cmpL cmpA a b
  | [], [] => rfl
  | [], _ :: _ => rfl
  | _ :: _, [] => rfl
  | x :: a, y :: b => by
    rw [List.map_cons, List.map_cons, cmpL, cmpL, cmpL_sh a b]
    unfold cmpA
    rw [cmpT_sh]
theorem cmpF_sh (f g : Fc) : cmpF (shF f) (shF g) = cmpF f g := by
  unfold cmpF
  show orL [cmpS f.name g.name, cmpI (((f.ts.map shT).length : Nat) : Int) (((g.ts.map shT).length : Nat) : Int), cmpL cmpA (f.ts.map shT) (g.ts.map shT), cmpI f.o g.o] = _
  rw [List.length_map, List.length_map, cmpL_sh]
theorem cmpF_like {f f' g g' : Fc} (h : shF f = shF f') (h' : shF g = shF g') : cmpF f g = cmpF f' g' := by rw [← cmpF_sh f g, h, h', cmpF_sh]
theorem mayE_sh (t : Tm) : mayE (shT t) = mayE t := by unfold mayE; rfl
theorem mayT_sh (t : Tm) : mayT (shT t) = mayT t := by
  unfold mayT
  rw [mayE_sh]
  rfl
theorem fixT_sh (t : Tm) : fixT (shT t) = fixT t := by
  unfold fixT
  rw [mayT_sh]
  rfl
/-- May it be there? -/
noncomputable def okF (f : Fc) : Bool := decide (f.o ≠ 0) && (nameT f.name && (decide (f.ts.length ≤ 8) && f.ts.all fixT))
theorem okF_sh (f : Fc) : okF (shF f) = okF f := by
  unfold okF
  show (decide (f.o ≠ 0) && (nameT f.name && (decide ((f.ts.map shT).length ≤ 8) && (f.ts.map shT).all fixT))) = _
  rw [List.length_map, List.all_map]
  congr 4
  funext t
  exact fixT_sh t
theorem okF_like {f f' : Fc} (h : shF f = shF f') : okF f = okF f' := by rw [← okF_sh f, h, okF_sh]
end Go.Proofs.Ythpioncehigoaaa
