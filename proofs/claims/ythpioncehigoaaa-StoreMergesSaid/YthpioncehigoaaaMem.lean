/-
  Words for memory that this claim's proofs use: what a call may have changed ('Ext'), the blocks that it holds ('Chunk', 'St'), a slice that is read ('Rd').
  No program is named here. Nothing is assumed.
-/
import Derived.WalkKit
import Derived.WalkSpells
import Derived.Below
import Derived.Laws.OwnMore
import Derived.Laws.Rows
import Derived.Laws.CopyOwn
import Derived.Maps.AppendAt
import Derived.Maps.Own
import Derived.Laws.BytesArg
import Derived.Deep.QuietTactic
set_option linter.unusedSimpArgs false
set_option linter.unusedVariables false
namespace Go.Proofs.Ythpioncehigoaaa
open Go.RowKit

/-! Short names for the equations by which a frame is laid out. -/
theorem nq1 {α : Type} (l : List α) (i : Nat) (a : α) : l.toArray.setIfInBounds i a = (l.set i a).toArray := List.setIfInBounds_toArray l i a
theorem nq2 {α : Type} {x : α} {xs : List α} {a : α} : (x :: xs).set 0 a = a :: xs := rfl
theorem nq3 {α : Type} {x : α} {xs : List α} {i : Nat} {a : α} : (x :: xs).set (i + 1) a = x :: xs.set i a := rfl
theorem nq4 {α : Type} {xs : List α} {i : Nat} (h : i < xs.toArray.size) : xs.toArray[i] = xs[i] := rfl
theorem nq5 {α : Type} (a : α) (xs : List α) (i : Nat) (h : i + 1 < (a :: xs).length) : (a :: xs)[i + 1] = xs[i]'(Nat.lt_of_succ_lt_succ h) := rfl
theorem nq6 {α : Type} (a : α) (xs : List α) (h : 0 < (a :: xs).length) : (a :: xs)[0] = a := rfl

/-- All of these under one name. -/
theorem nq : (∀ (l : List Value) (i : Nat) (a : Value), l.toArray.setIfInBounds i a = (l.set i a).toArray) ∧ (∀ (x : Value) (xs : List Value) (a : Value), (x :: xs).set 0 a = a :: xs) ∧ (∀ (x : Value) (xs : List Value) (i : Nat) (a : Value), (x :: xs).set (i + 1) a = x :: xs.set i a) ∧
    (∀ (xs : List Value) (i : Nat) (h : i < xs.toArray.size), xs.toArray[i] = xs[i]) ∧ (∀ (a : Value) (xs : List Value) (i : Nat) (h : i + 1 < (a :: xs).length), (a :: xs)[i + 1] = xs[i]'(Nat.lt_of_succ_lt_succ h)) ∧ (∀ (a : Value) (xs : List Value) (h : 0 < (a :: xs).length), (a :: xs)[0] = a) :=
  ⟨fun l i a => List.setIfInBounds_toArray l i a, fun _ _ _ => rfl, fun _ _ _ _ => rfl, fun _ _ _ => rfl, fun _ _ _ _ => rfl, fun _ _ _ => rfl⟩
/-- A fact kept from the walk. -/
theorem hide {p : Prop} (h : p) : Hid p := h

/-- Behind the call what was there is as it was, but for the blocks in M. -/
structure Ext (M : Nat → Prop) (w w' : World) : Prop where
  os : w'.os = w.os
  tape : w'.tape = w.tape
  output : w'.output = w.output
  size : w.heap.size ≤ w'.heap.size
  block : ∀ k, k < w.heap.size → ¬ M k → w'.heap[k]? = w.heap[k]?

def NoB : Nat → Prop := fun _ => False
def OneB (g : Nat) : Nat → Prop := fun k => k = g

theorem Ext.refl (M : Nat → Prop) (w : World) : Ext M w w := ⟨rfl, rfl, rfl, Nat.le_refl _, fun _ _ _ => rfl⟩
theorem Ext.trans {M : Nat → Prop} {a b c : World} (h : Ext M a b) (k : Ext M b c) : Ext M a c :=
  ⟨k.os.trans h.os, k.tape.trans h.tape, k.output.trans h.output, Nat.le_trans h.size k.size,
    fun i hi hm => (k.block i (Nat.lt_of_lt_of_le hi h.size) hm).trans (h.block i hi hm)⟩
theorem Ext.below {w w' : World} (h : Ext NoB w w') : Below w.heap.size w w' :=
  ⟨h.os, h.tape, h.output, h.size, fun k hk => h.block k hk (fun hn => hn)⟩
theorem ext_of_below {M : Nat → Prop} {w w' : World} (h : Below w.heap.size w w') : Ext M w w' :=
  ⟨h.os, h.tape, h.output, h.size, fun k hk _ => h.block k hk⟩
theorem Ext.cell {M : Nat → Prop} {w w' : World} (h : Ext M w w') {p : Addr} (hp : p.block < w.heap.size) (hm : ¬ M p.block) : w'.cell? p = w.cell? p :=
  World.cell?_of_block (w := w) (h.block p.block hp hm)

/-- What a call holds: a block known whole; a slice of its own that it may append to. -/
inductive Chunk where
  | cells (g : Nat) (cur : Array Value) (e : TypeId)
  | row (v : Value) (e : TypeId) (size n : Nat) (xs : List Value)
  | obj (g : Nat) (o : Obj)

def Chunk.block : Chunk → Option Nat
  | .cells g _ _ => some g
  | .row v _ _ _ _ => v.ownBlock
  | .obj g _ => some g
def Chunk.sat (w : World) : Chunk → Prop
  | .cells g cur e => w.heap[g]? = some (.cells cur e (0, 0))
  | .row v e size n xs => w.ownsRow 0 e size v n xs
  | .obj g o => w.heap[g]? = some o

theorem Chunk.lt {w : World} {c : Chunk} (h : c.sat w) {k : Nat} (hk : c.block = some k) : k < w.heap.size := by
  cases c with
  | cells g cur e =>
    simp only [Chunk.block, Option.some.injEq] at hk
    subst hk
    exact (Array.getElem?_eq_some_iff.1 h).1
  | row v e size n xs => exact (World.ownsRow.lt (h : w.ownsRow 0 e size v n xs) k hk).2
  | obj g o =>
    simp only [Chunk.block, Option.some.injEq] at hk
    subst hk
    exact (Array.getElem?_eq_some_iff.1 h).1
theorem Chunk.keep {w w' : World} {c : Chunk} (h : c.sat w) (hb : ∀ k, c.block = some k → w'.heap[k]? = w.heap[k]?) : c.sat w' := by
  cases c with
  | cells g cur e => exact (hb g rfl).trans h
  | row v e size n xs =>
    obtain ⟨h1, h2⟩ := (h : w.ownsRow 0 e size v n xs)
    refine ⟨h1, ?_⟩
    rcases h2 with h2 | ⟨g, cap, cur, rfl, hg, hh, hr⟩
    · exact .inl h2
    · exact .inr ⟨g, cap, cur, rfl, hg, (hb g rfl).trans hh, hr⟩
  | obj g o => exact (hb g rfl).trans h

/-- The world 'w' of a call that began in 'w0' and may write the old blocks in 'M': it holds the chunks 'H', no two of them in one block. -/
structure St (w0 : World) (M : Nat → Prop) (w : World) (H : List Chunk) : Prop where
  ext : Ext M w0 w
  sat : ∀ (i : Nat) (c : Chunk), H[i]? = some c → c.sat w
  own : ∀ (i : Nat) (c : Chunk) (k : Nat), H[i]? = some c → c.block = some k → w0.heap.size ≤ k ∨ M k
  apart : ∀ (i j : Nat) (c d : Chunk) (k : Nat), i ≠ j → H[i]? = some c → H[j]? = some d → c.block = some k → d.block ≠ some k

section
variable {w0 w w' : World} {M : Nat → Prop} {H : List Chunk}

theorem St.init (w0 : World) (M : Nat → Prop) : St w0 M w0 [] :=
  ⟨Ext.refl _ _, fun i c h => by simp at h, fun i c k h => by simp at h, fun i j c d k _ h => by simp at h⟩
theorem St.below (h : St w0 NoB w H) : Below w0.heap.size w0 w := h.ext.below

/-- What no chunk holds has changed at most. -/
theorem St.far (h : St w0 M w H) (hE : Ext NoB w w') : St w0 M w' H :=
  ⟨h.ext.trans (ext_of_below hE.below),
    fun i c hc => Chunk.keep (h.sat i c hc) fun k hk => hE.block k (Chunk.lt (h.sat i c hc) hk) (fun x => x), h.own, h.apart⟩
theorem St.call (h : St w0 M w H) (hb : Below w.heap.size w w') : St w0 M w' H := h.far (ext_of_below hb)
theorem St.drew (h : St w0 M w H) : St w0 M w.drew H := h.call ((Below.refl _ _).drew)
theorem St.drewN (h : St w0 M w H) (n : Nat) : St w0 M (w.drewN n) H := h.call ⟨rfl, rfl, rfl, Nat.le_refl _, fun _ _ => rfl⟩

/-- A chunk more, in a block that is new. -/
theorem St.add (h : St w0 M w H) (hb : Below w.heap.size w w') {c : Chunk} (hc : c.sat w') (hn : ∀ k, c.block = some k → w.heap.size ≤ k) : St w0 M w' (c :: H) := by
  have h' := h.call hb
  refine ⟨h'.ext, ?_, ?_, ?_⟩
  · intro i d hd
    cases i with
    | zero => simp only [List.getElem?_cons_zero, Option.some.injEq] at hd; subst hd; exact hc
    | succ i => exact h'.sat i d (by simpa using hd)
  · intro i d k hd hk
    cases i with
    | zero =>
      simp only [List.getElem?_cons_zero, Option.some.injEq] at hd
      subst hd
      exact .inl (Nat.le_trans h.ext.size (hn k hk))
    | succ i => exact h'.own i d k (by simpa using hd) hk
  · intro i j d e k hij hd he hk hk'
    cases i with
    | zero =>
      simp only [List.getElem?_cons_zero, Option.some.injEq] at hd
      subst hd
      cases j with
      | zero => exact hij rfl
      | succ j =>
        have := Chunk.lt (h.sat j e (by simpa using he)) hk'
        have := hn k hk
        omega
    | succ i =>
      cases j with
      | zero =>
        simp only [List.getElem?_cons_zero, Option.some.injEq] at he
        subst he
        have := Chunk.lt (h.sat i d (by simpa using hd)) hk
        have := hn k hk'
        omega
      | succ j => exact h'.apart i j d e k (by omega) (by simpa using hd) (by simpa using he) hk hk'

theorem St.alloc (h : St w0 M w H) (c : Array Value) (e : TypeId) : St w0 M (w.alloc (.cells c e)) (.cells w.heap.size c e :: H) :=
  h.add ((Below.refl _ _).alloc (Nat.le_refl _) _) (heap_alloc_new w _) (fun k hk => by simp only [Chunk.block, Option.some.injEq] at hk; omega)
theorem St.allocObj (h : St w0 M w H) (o : Obj) : St w0 M (w.alloc o) (.obj w.heap.size o :: H) :=
  h.add ((Below.refl _ _).alloc (Nat.le_refl _) _) (heap_alloc_new w _) (fun k hk => by simp only [Chunk.block, Option.some.injEq] at hk; omega)
theorem St.skip (h : St w0 M w H) (o : Obj) : St w0 M (w.alloc o) H := h.call ((Below.refl _ _).alloc (Nat.le_refl _) _)
theorem St.row (h : St w0 M w H) (hb : Below w.heap.size w w') {e : TypeId} {size n : Nat} {v : Value} {xs : List Value} (ho : w'.ownsRow w.heap.size e size v n xs) :
    St w0 M w' (.row v e size n xs :: H) := by
  refine h.add hb (c := .row v e size n xs) ?_ (fun k hk => (ho.lt k hk).1)
  obtain ⟨h1, h2⟩ := ho
  refine ⟨h1, ?_⟩
  rcases h2 with h2 | ⟨g, cap, cur, rfl, hg, hr⟩
  · exact .inl h2
  · exact .inr ⟨g, cap, cur, rfl, Nat.zero_le _, hr⟩

/-- Chunk number i turns into another one; of the blocks that were there only its own was written. -/
theorem St.turn (h : St w0 M w H) {i : Nat} {c d : Chunk} (hi : H[i]? = some c) (hE : Ext (fun k => c.block = some k) w w') (hd : d.sat w')
    (hn : ∀ k, d.block = some k → c.block = some k ∨ w.heap.size ≤ k) : St w0 M w' (H.set i d) := by
  have hlt : i < H.length := (List.getElem?_eq_some_iff.1 hi).1
  have hget : ∀ (j : Nat) (x : Chunk), (H.set i d)[j]? = some x → (j = i ∧ x = d) ∨ (j ≠ i ∧ H[j]? = some x) := by
    intro j x hx
    rw [List.getElem?_set] at hx
    by_cases hij : i = j
    · subst hij
      rw [if_pos rfl, if_pos hlt] at hx
      injection hx with hx
      exact .inl ⟨rfl, hx.symm⟩
    · rw [if_neg hij] at hx
      exact .inr ⟨fun e => hij e.symm, hx⟩
  have hkeep : ∀ (j : Nat) (x : Chunk), j ≠ i → H[j]? = some x → x.sat w' := fun j x hj hx =>
    Chunk.keep (h.sat j x hx) fun k hk => hE.block k (Chunk.lt (h.sat j x hx) hk) (fun hc => h.apart j i x c k hj hx hi hk hc)
  refine ⟨⟨hE.os.trans h.ext.os, hE.tape.trans h.ext.tape, hE.output.trans h.ext.output, Nat.le_trans h.ext.size hE.size, ?_⟩, ?_, ?_, ?_⟩
  · intro k hk hm
    refine (hE.block k (Nat.lt_of_lt_of_le hk h.ext.size) fun hc => ?_).trans (h.ext.block k hk hm)
    rcases h.own i c k hi hc with h1 | h1
    · omega
    · exact hm h1
  · intro j x hx
    rcases hget j x hx with ⟨_, rfl⟩ | ⟨hj, hx⟩
    · exact hd
    · exact hkeep j x hj hx
  · intro j x k hx hk
    rcases hget j x hx with ⟨_, rfl⟩ | ⟨hj, hx⟩
    · rcases hn k hk with h1 | h1
      · exact h.own i c k hi h1
      · exact .inl (Nat.le_trans h.ext.size h1)
    · exact h.own j x k hx hk
  · intro j l x y k hjl hx hy hk hk'
    rcases hget j x hx with ⟨hji, hxd⟩ | ⟨hj, hx'⟩
    · rcases hget l y hy with ⟨hli, _⟩ | ⟨hl, hy'⟩
      · omega
      · subst hji
        subst hxd
        rcases hn k hk with h1 | h1
        · exact h.apart j l c y k hjl hi hy' h1 hk'
        · have := Chunk.lt (h.sat l y hy') hk'
          omega
    · rcases hget l y hy with ⟨hli, hyd⟩ | ⟨hl, hy'⟩
      · subst hli
        subst hyd
        rcases hn k hk' with h1 | h1
        · exact h.apart j l x c k hjl hx' hi hk h1
        · have := Chunk.lt (h.sat j x hx') hk
          omega
      · exact h.apart j l x y k hjl hx' hy' hk hk'

theorem St.heap (h : St w0 M w H) (i : Nat) {g : Nat} {c : Array Value} {e : TypeId} (hi : H[i]? = some (.cells g c e)) : w.heap[g]? = some (.cells c e (0, 0)) := h.sat i _ hi
theorem St.cell (h : St w0 M w H) (i : Nat) {g : Nat} {c : Array Value} {e : TypeId} (hi : H[i]? = some (.cells g c e)) (o : Nat) : w.cell? ⟨g, o, none⟩ = c[o]? :=
  cell_of_row w g o c e (0, 0) (h.heap i hi)
theorem St.free (h : St w0 M w H) (i : Nat) {g : Nat} {c : Array Value} {e : TypeId} (hi : H[i]? = some (.cells g c e)) (o : Nat) : w.frozen? ⟨g, o, none⟩ = false :=
  frozen_of_row w g o c e (h.heap i hi)

theorem ext_setCell (w : World) (a : Addr) (v : Value) : Ext (fun k => some a.block = some k) w (w.setCell a v) :=
  ⟨rfl, rfl, rfl, by simp, fun k _ hm => heap_setCell_other w a k v (fun e => hm (by rw [e]))⟩
theorem St.setCell (h : St w0 M w H) (i : Nat) {g : Nat} {c : Array Value} {e : TypeId} (hi : H[i]? = some (.cells g c e)) (o : Nat) (v : Value) :
    St w0 M (w.setCell ⟨g, o, none⟩ v) (H.set i (.cells g (c.setIfInBounds o v) e)) :=
  h.turn hi (ext_setCell w ⟨g, o, none⟩ v) (heap_setCell_same w g o c e v (h.heap i hi)) (fun _ hk => .inl hk)
theorem ext_setRow (w : World) (g : Nat) (cs : Array Value) : Ext (fun k => some g = some k) w (w.setRow g cs) :=
  ⟨rfl, rfl, rfl, by simp, fun k _ hm => setRow_other w g k cs (fun e => hm (by rw [e]))⟩
theorem St.setRow (h : St w0 M w H) (i : Nat) {g : Nat} {c : Array Value} {e : TypeId} (hi : H[i]? = some (.cells g c e)) (cs : Array Value) :
    St w0 M (w.setRow g cs) (H.set i (.cells g cs e)) :=
  h.turn hi (ext_setRow w g cs) (setRow_heap w g c cs e _ (h.heap i hi)) (fun _ hk => .inl hk)
theorem ext_setBlock (w : World) (g : Nat) (o : Obj) : Ext (fun k => some g = some k) w (ChangeMaps.setBlock w g o) :=
  ⟨rfl, rfl, rfl, by simp [ChangeMaps.setBlock], fun k _ hm => by
    have hne : g ≠ k := fun e => hm (by rw [e])
    simp [ChangeMaps.setBlock, Array.getElem?_setIfInBounds, hne]⟩
theorem St.setObj (h : St w0 M w H) (i : Nat) {g : Nat} {o : Obj} (hi : H[i]? = some (.obj g o)) (o' : Obj) : St w0 M (ChangeMaps.setBlock w g o') (H.set i (.obj g o')) := by
  have hg : w.heap[g]? = some o := h.sat i _ hi
  have hlt := (Array.getElem?_eq_some_iff.1 hg).1
  refine h.turn (d := .obj g o') hi (ext_setBlock w g o') ?_ (fun _ hk => .inl hk)
  show (ChangeMaps.setBlock w g o').heap[g]? = some o'
  simp [ChangeMaps.setBlock, Array.getElem?_setIfInBounds, hlt]
theorem St.grown (h : St w0 M w H) (i : Nat) {e : TypeId} {size n m : Nat} {v v' : Value} {xs ys : List Value} (hi : H[i]? = some (.row v e size n xs))
    (hg : w.grownBy w' v.ownBlock) (ho : w'.ownsRow 0 e size v' m ys) (hat : v'.ownBlock = v.ownBlock ∨ v'.ownBlock = some w.heap.size) : St w0 M w' (H.set i (.row v' e size m ys)) :=
  h.turn (d := .row v' e size m ys) hi ⟨hg.os, hg.tape, hg.output, hg.size, fun k hk hm => hg.block k hk (fun x => hm x.symm)⟩ ho (fun k hk => by
    rcases hat with x | x
    · exact .inl ((show v.ownBlock = some k from x ▸ (show v'.ownBlock = some k from hk)))
    · refine .inr ?_
      have : some k = some w.heap.size := hk.symm.trans x
      injection this with this
      omega)
/-- Chunks may be forgotten, and come in another order. -/
theorem St.pick (h : St w0 M w H) (is : List Nat) (H' : List Chunk) (hn : is.Nodup) (hH : H'.length = is.length ∧ ∀ (i : Nat) (c : Chunk), H'[i]? = some c → ∃ j, is[i]? = some j ∧ H[j]? = some c) : St w0 M w H' := by
  refine ⟨h.ext, fun i c hc => ?_, fun i c k hc => ?_, fun i j c d k hij hc hd => ?_⟩
  · obtain ⟨j, _, hj⟩ := hH.2 i c hc
    exact h.sat j c hj
  · obtain ⟨j, _, hj⟩ := hH.2 i c hc
    exact h.own j c k hj
  · obtain ⟨i', hi', hi⟩ := hH.2 i c hc
    obtain ⟨j', hj', hj⟩ := hH.2 j d hd
    refine h.apart i' j' c d k ?_ hi hj
    rintro rfl
    obtain ⟨a1, a2⟩ := List.getElem?_eq_some_iff.1 hi'
    obtain ⟨b1, b2⟩ := List.getElem?_eq_some_iff.1 hj'
    exact hij ((List.getElem_inj hn).1 (a2.trans b2.symm))
theorem St.pickL (h : St w0 M w H) (is : List Nat) {H' : List Chunk} (hn : is.Nodup) (hH : is.map (fun j => H[j]?) = H'.map some) : St w0 M w H' := by
  refine h.pick is H' hn ⟨by simpa using (congrArg List.length hH).symm, fun i c hc => ?_⟩
  have h1 : (is.map (fun j => H[j]?))[i]? = some (some c) := by rw [hH, List.getElem?_map, hc]; rfl
  rw [List.getElem?_map] at h1
  cases hj : is[i]? with
  | none => rw [hj] at h1; cases h1
  | some j =>
    rw [hj] at h1
    simp only [Option.map_some, Option.some.injEq] at h1
    exact ⟨j, rfl, h1⟩
theorem St.swap {a b : Chunk} (h : St w0 M w (a :: b :: H)) : St w0 M w (b :: a :: H) := by
  have key : ∀ (i : Nat) (c : Chunk), (b :: a :: H)[i]? = some c → (a :: b :: H)[if i = 0 then 1 else if i = 1 then 0 else i]? = some c := by
    intro i c hc
    match i, hc with
    | 0, hc => exact hc
    | 1, hc => exact hc
    | i + 2, hc => rw [if_neg (by omega), if_neg (by omega)]; exact hc
  exact ⟨h.ext, fun i c hc => h.sat _ c (key i c hc), fun i c k hc => h.own _ c k (key i c hc),
    fun i j c d k hij hc hd => h.apart _ _ c d k (by split <;> split <;> (try split) <;> (try split) <;> omega) (key i c hc) (key j d hd)⟩
theorem St.mid2 {a b x : Chunk} (h : St w0 M w (a :: b :: x :: H)) : St w0 M w (a :: b :: H) := by
  have key : ∀ (i : Nat) (d : Chunk), (a :: b :: H)[i]? = some d → (a :: b :: x :: H)[if i < 2 then i else i + 1]? = some d := by
    intro i d hd
    match i, hd with
    | 0, hd => exact hd
    | 1, hd => exact hd
    | i + 2, hd => rw [if_neg (by omega)]; exact hd
  exact ⟨h.ext, fun i d hd => h.sat _ d (key i d hd), fun i d k hd => h.own _ d k (key i d hd),
    fun i j d e k hij hd he => h.apart _ _ d e k (by split <;> split <;> omega) (key i d hd) (key j e he)⟩
theorem St.swap12 {a b c : Chunk} (h : St w0 M w (a :: b :: c :: H)) : St w0 M w (a :: c :: b :: H) := by
  have key : ∀ (i : Nat) (d : Chunk), (a :: c :: b :: H)[i]? = some d → (a :: b :: c :: H)[if i = 1 then 2 else if i = 2 then 1 else i]? = some d := by
    intro i d hd
    match i, hd with
    | 0, hd => exact hd
    | 1, hd => exact hd
    | 2, hd => exact hd
    | i + 3, hd => rw [if_neg (by omega), if_neg (by omega)]; exact hd
  exact ⟨h.ext, fun i d hd => h.sat _ d (key i d hd), fun i d k hd => h.own _ d k (key i d hd),
    fun i j d e k hij hd he => h.apart _ _ d e k (by split <;> split <;> (try split) <;> (try split) <;> omega) (key i d hd) (key j e he)⟩
theorem St.rot3 {a b c : Chunk} (h : St w0 M w (a :: b :: c :: H)) : St w0 M w (c :: b :: a :: H) := by
  have key : ∀ (i : Nat) (d : Chunk), (c :: b :: a :: H)[i]? = some d → (a :: b :: c :: H)[if i = 0 then 2 else if i = 2 then 0 else i]? = some d := by
    intro i d hd
    match i, hd with
    | 0, hd => exact hd
    | 1, hd => exact hd
    | 2, hd => exact hd
    | i + 3, hd => rw [if_neg (by omega), if_neg (by omega)]; exact hd
  exact ⟨h.ext, fun i d hd => h.sat _ d (key i d hd), fun i d k hd => h.own _ d k (key i d hd),
    fun i j d e k hij hd he => h.apart _ _ d e k (by split <;> split <;> (try split) <;> (try split) <;> omega) (key i d hd) (key j e he)⟩
theorem St.tail {c : Chunk} (h : St w0 M w (c :: H)) : St w0 M w H :=
  ⟨h.ext, fun i d hd => h.sat (i + 1) d (by simpa using hd), fun i d k hd => h.own (i + 1) d k (by simpa using hd),
    fun i j d e k hij hd he => h.apart (i + 1) (j + 1) d e k (by omega) (by simpa using hd) (by simpa using he)⟩
theorem St.ownsRow (h : St w0 NoB w H) (i : Nat) {e : TypeId} {size n : Nat} {v : Value} {xs : List Value} (hi : H[i]? = some (.row v e size n xs)) : w.ownsRow w0.heap.size e size v n xs := by
  obtain ⟨h1, h2⟩ := (h.sat i _ hi : w.ownsRow 0 e size v n xs)
  refine ⟨h1, ?_⟩
  rcases h2 with h2 | ⟨g, cap, cur, rfl, hg, hr⟩
  · exact .inl h2
  · refine .inr ⟨g, cap, cur, rfl, ?_, hr⟩
    rcases h.own i _ g hi rfl with h3 | h3
    · exact h3
    · exact h3.elim
end

/-- A slice value reads, in 'w', as the cells 'xs' ('size' cells an element). -/
def Rd (w : World) (v : Value) (size n : Nat) (xs : List Value) : Prop :=
  ∃ A c, v = .slice A n c ∧ xs.length = n * size ∧ n ≤ c ∧ c ≤ maxLen ∧ (A = none → c = 0) ∧
    ∀ b o sp, A = some ⟨b, o, sp⟩ → (0 < n * size → sp = none) ∧ ∀ j u, xs[j]? = some u → w.cell? ⟨b, o + j, none⟩ = some u

section
variable {w w' : World} {v : Value} {size n : Nat} {xs : List Value}
theorem Rd.len (h : Rd w v size n xs) : xs.length = n * size := by obtain ⟨A, c, _, h, _⟩ := h; exact h
theorem Rd.le (h : Rd w v size n xs) : n ≤ maxLen := by obtain ⟨A, c, _, _, h1, h2, _⟩ := h; omega
theorem Rd.keep (h : Rd w v size n xs) (hs : w.heap.size ≤ w'.heap.size) (hk : ∀ b, b < w.heap.size → v.ownBlock = some b → w'.heap[b]? = w.heap[b]?) : Rd w' v size n xs := by
  obtain ⟨A, c, rfl, h1, h2, h3, h4, h5⟩ := h
  refine ⟨A, c, rfl, h1, h2, h3, h4, fun b o sp hA => ?_⟩
  obtain ⟨k2, k3⟩ := h5 b o sp hA
  refine ⟨k2, fun j u hu => ?_⟩
  rw [World.cell?_of_block (w := w) (a := ⟨b, o + j, none⟩) (hk b (block_lt_of_cell (k3 j u hu)) (by subst hA; rfl))]
  exact k3 j u hu
theorem Rd.below (h : Rd w v size n xs) (hb : Below w.heap.size w w') : Rd w' v size n xs := h.keep hb.size fun b hlt _ => hb.block b hlt
theorem Rd.st {w0 : World} {H : List Chunk} (h : Rd w0 v size n xs) (hS : St w0 NoB w H) : Rd w v size n xs := h.below hS.below
theorem Rd.stM {w0 : World} {M : Nat → Prop} {H : List Chunk} (h : Rd w0 v size n xs) (hS : St w0 M w H) (hM : ∀ b, v.ownBlock = some b → ¬ M b) : Rd w v size n xs :=
  h.keep hS.ext.size fun b hlt hb => hS.ext.block b hlt (hM b hb)
theorem rd_nil (w : World) (size : Nat) : Rd w (.slice none 0 0) size 0 [] := ⟨none, 0, rfl, by simp, Nat.le_refl _, by unfold maxLen; omega, fun _ => rfl, fun b o sp h => by cases h⟩
theorem rd_own {base : Nat} {e : TypeId} (h : w.ownsRow base e size v n xs) : Rd w v size n xs := by
  obtain ⟨h1, h2⟩ := h
  rcases h2 with ⟨rfl, rfl⟩ | ⟨g, cap, cur, rfl, hg, hh, hn, hm, hc, ht⟩
  · have : xs = [] := List.eq_nil_of_length_eq_zero (by simpa using h1)
    subst this
    exact rd_nil w size
  · refine ⟨some ⟨g, 0, none⟩, cap, rfl, h1, hn, hm, (fun h => by cases h), fun b o sp hA => ?_⟩
    injection hA with hA
    injection hA with hb ho hsp
    subst hb ho hsp
    refine ⟨fun _ => rfl, fun j u hu => ?_⟩
    rw [Nat.zero_add, cell_of_row w g j cur e (0, 0) hh]
    rw [← ht, List.getElem?_take] at hu
    split at hu
    · simpa using hu
    · cases hu
theorem St.rd {w0 : World} {M : Nat → Prop} {H : List Chunk} {e : TypeId} (h : St w0 M w H) (i : Nat) (hi : H[i]? = some (.row v e size n xs)) : Rd w v size n xs := rd_own (h.sat i _ hi)
/-- Opened: nil and empty, or an address. -/
theorem Rd.cases (h : Rd w v size n xs) : (v = .slice none 0 0 ∧ n = 0 ∧ xs = []) ∨ ∃ b o sp c, v = .slice (some ⟨b, o, sp⟩) n c ∧ (0 < n * size → b < w.heap.size) ∧ n ≤ c ∧ c ≤ maxLen ∧ xs.length = n * size ∧ (0 < n * size → sp = none) ∧ ∀ j u, xs[j]? = some u → w.cell? ⟨b, o + j, none⟩ = some u := by
  obtain ⟨A, c, rfl, h1, h2, h3, h4, h5⟩ := h
  rcases A with _ | ⟨b, o, sp⟩
  · have hc := h4 rfl
    subst hc
    have hn : n = 0 := by omega
    subst hn
    exact .inl ⟨rfl, rfl, List.eq_nil_of_length_eq_zero (by simpa using h1)⟩
  · obtain ⟨k2, k3⟩ := h5 b o sp rfl
    refine .inr ⟨b, o, sp, c, rfl, fun hn => ?_, h2, h3, h1, k2, k3⟩
    have hx : 0 < xs.length := by omega
    exact block_lt_of_cell (k3 0 xs[0] (List.getElem?_eq_getElem hx))
end

/-! Bytes. -/
def bv (b : UInt8) : Value := .int .u8 (b.toNat : Int)
def bvs (l : List UInt8) : List Value := l.map bv
theorem length_bvs (l : List UInt8) : (bvs l).length = l.length := by simp [bvs]
theorem bvs_append (l m : List UInt8) : bvs (l ++ m) = bvs l ++ bvs m := by simp [bvs]
theorem one_bvs (l : List UInt8) : ∀ u ∈ bvs l, u.oneCell' = true := by
  intro u hu
  simp only [bvs, List.mem_map] at hu
  obtain ⟨b, _, rfl⟩ := hu
  rfl

theorem own_slice {w : World} {base : Nat} {e : TypeId} {size n : Nat} {v : Value} {xs : List Value} (h : w.ownsRow base e size v n xs) : ∃ A c, v = .slice A n c := by
  rcases h.2 with ⟨rfl, rfl⟩ | ⟨g, cap, cur, rfl, _⟩
  · exact ⟨_, _, rfl⟩
  · exact ⟨_, _, rfl⟩

/-- What 'append' asks of the types: t is '[]e', an element takes 'size' cells and 'bytes' bytes. -/
structure RowTy (P : Program) (t e : TypeId) (size bytes : Nat) : Prop where
  under : P.underlying t = some (.slice e)
  info : ∃ i z, P.info? e = some i ∧ i.zero = some z ∧ i.size = size ∧ i.bytes = bytes ∧ z.cells.size = size
  pos : 0 < size
theorem rowTy_of {P : Program} {t e : TypeId} {size bytes : Nat} {z : Value} (h1 : P.underlying t = some (.slice e)) (h2 : (P.info? e).map (fun i => (i.zero, i.size, i.bytes)) = some (some z, size, bytes)) (h3 : z.cells.size = size) (h4 : 0 < size) : RowTy P t e size bytes := by
  cases hi : P.info? e with
  | none => rw [hi] at h2; cases h2
  | some i =>
    rw [hi] at h2
    simp only [Option.map_some, Option.some.injEq, Prod.mk.injEq] at h2
    exact ⟨h1, ⟨i, z, hi, h2.1, h2.2.1, h2.2.2, h3⟩, h4⟩

/-- No slice here grows beyond this. -/
def MostLen : Nat := 1099511627776

section
variable {P : Program} {w0 w : World} {M : Nat → Prop} {H : List Chunk}

theorem run_append_of_nil (base : Nat) (t ty e : TypeId) (i : TypeInfo) (size : Nat) (ht : P.underlying t = some (.slice e)) (hi : P.info? e = some i)
    (v : Value) (n : Nat) (xs : List Value) (hown : w.ownsRow base e size v n xs) (c : Nat) : (Builtin.append_ #[t, t] ty #[v, .slice none 0 c]).run P w = .ok v w := by
  rcases hown.2 with ⟨rfl, rfl⟩ | ⟨g, cap, cur, rfl, _, _, hnc, _⟩
  · simp [Builtin.append_, run_underlying ht, sizeOf, typeInfo, hi, Builtin.lenOf, Builtin.firstCells]
  · simp [Builtin.append_, run_underlying ht, sizeOf, typeInfo, hi, Builtin.lenOf, Builtin.firstCells, hnc, storeCells]

theorem run_append_rd (base : Nat) (t ty e : TypeId) (size bytes : Nat) (T : RowTy P t e size bytes)
    (v : Value) (n : Nat) (xs : List Value) (hown : w.ownsRow base e size v n xs) {y : Value} {m : Nat} {ys : List Value} (hr : Rd w y size m ys) (h1 : ∀ u ∈ ys, u.oneCell' = true)
    (h63 : n + m ≤ maxLen) (hbytes : (n + m) * bytes ≤ 140737488355328) (hbase : base ≤ w.heap.size) :
    ∃ v' w', (Builtin.append_ #[t, t] ty #[v, y]).run P w = .ok v' w' ∧ w'.ownsRow base e size v' (n + m) (xs ++ ys) ∧ w.grownBy w' v.ownBlock ∧ (v'.ownBlock = v.ownBlock ∨ v'.ownBlock = some w.heap.size) := by
  obtain ⟨ht, ⟨i, z, hi, hz, hsize, hby, hzs⟩, hsz⟩ := T
  rcases hr.cases with ⟨rfl, rfl, rfl⟩ | ⟨b, o, sp, c, rfl, hb, hnc, hcm, hl, hsp, hc⟩
  · exact ⟨v, w, run_append_of_nil base t ty e i size ht hi v n xs hown 0, by simpa using hown, World.grownBy.refl w _, .inl rfl⟩
  · have hcells : ∀ j u, ys[j]? = some u → w.cell? ((⟨b, o, sp⟩ : Addr).add j) = some u := by
      intro j u hu
      have hj : j < ys.length := (List.getElem?_eq_some_iff.1 hu).1
      have : sp = none := hsp (by omega)
      subst this
      rw [Addr.add_lit]
      exact hc j u hu
    obtain ⟨v', w', hrun, h2, h3, _, h5⟩ := run_append_own_at (P := P) w base t ty e i z size bytes ht hi hz hsize hby hzs hsz v n xs hown ⟨b, o, sp⟩ m c ys hl hcells h1 h63 hbytes hbase
    exact ⟨v', w', hrun, h2, h3, h5⟩

/-- 'append(s, x...)': s is chunk number k, x is read. -/
theorem wp_append {o : Oper} {a : Act} {K : Act → World → Prop} {Q : Exit → Act → World → Prop} {s x : Operand} {t e : TypeId} {size bytes : Nat}
    (ho : o.op = .call { callee := .builtin .append, args := #[s, x], argTypes := #[t, t] }) (T : RowTy P t e size bytes)
    (hS : St w0 M w H) (k : Nat) {v : Value} {n : Nat} {xs : List Value} (hk : H[k]? = some (.row v e size n xs)) (hs : a.eval s = v)
    {y : Value} {m : Nat} {ys : List Value} (hx : a.eval x = y) (hr : Rd w y size m ys) (h1 : ∀ u ∈ ys, u.oneCell' = true) (hlen : n + m ≤ 4294967296) (hby : bytes ≤ 32768)
    (h : ∀ A' c' w', St w0 M w' (H.set k (.row (.slice A' (n + m) c') e size (n + m) (xs ++ ys))) → K (a.put o.dst (.slice A' (n + m) c')) w') : o.wp P a w K Q := by
  have hown : w.ownsRow 0 e size v n xs := hS.sat k _ hk
  obtain ⟨v', w', hrun, h2, h3, h4⟩ := run_append_rd (P := P) 0 t o.type e size bytes T v n xs hown hr h1 (by unfold maxLen; omega) (Nat.mul_le_mul hlen hby) (Nat.zero_le _)
  unfold Oper.wp execOp
  simp only [ho, resolve, invoke, builtin, Sem.run_bind, Sem.run_pure, Result.andThen_ok, List.map_toArray, List.map_cons, List.map_nil, hs, hx, hrun]
  obtain ⟨A', c', rfl⟩ := own_slice h2
  exact h A' c' w' (hS.grown k hk h3 h2 h4)
theorem wl_append {ops : Array Oper} {rest : List Oper} {o : Oper} {a : Act} {Q : Exit → Act → World → Prop} (hgd : o.guard = none) {s x : Operand} {t e : TypeId} {size bytes : Nat}
    (ho : o.op = .call { callee := .builtin .append, args := #[s, x], argTypes := #[t, t] }) (T : RowTy P t e size bytes)
    (hS : St w0 M w H) (k : Nat) {v : Value} {n : Nat} {xs : List Value} (hk : H[k]? = some (.row v e size n xs)) (hs : a.eval s = v)
    {y : Value} {m : Nat} {ys : List Value} (hx : a.eval x = y) (hr : Rd w y size m ys) (h1 : ∀ u ∈ ys, u.oneCell' = true) (hlen : n + m ≤ 4294967296) (hby : bytes ≤ 32768)
    (h : ∀ A' c' w', St w0 M w' (H.set k (.row (.slice A' (n + m) c') e size (n + m) (xs ++ ys))) → wpList P ops Q rest (a.put o.dst (.slice A' (n + m) c')) w') : wpList P ops Q (o :: rest) a w :=
  wpList_plain hgd fun _ hK => wp_append ho T hS k hk hs hx hr h1 hlen hby fun A' c' w' h2 => hK _ _ (h A' c' w' h2)

theorem step_append {yl : Nat → Option Bool} {o : Oper} {a : Act} {K : Act → World → Prop} {Q : Exit → Act → World → Prop} {E : Prop} (hw : Region.wanted o yl = true) {s x : Operand} {t e : TypeId} {size bytes : Nat}
    (ho : o.op = .call { callee := .builtin .append, args := #[s, x], argTypes := #[t, t] }) (T : RowTy P t e size bytes)
    (hS : St w0 M w H) (k : Nat) {v : Value} {n : Nat} {xs : List Value} (hk : H[k]? = some (.row v e size n xs)) (hs : a.eval s = v)
    {y : Value} {m : Nat} {ys : List Value} (hx : a.eval x = y) (hr : Rd w y size m ys) (h1 : ∀ u ∈ ys, u.oneCell' = true) (hlen : n + m ≤ 4294967296) (hby : bytes ≤ 32768)
    (h : ∀ A' c' w', St w0 M w' (H.set k (.row (.slice A' (n + m) c') e size (n + m) (xs ++ ys))) → K (a.put o.dst (.slice A' (n + m) c')) w') : if Region.wanted o yl = true then Oper.wp P o a w K Q else E := by
  rw [if_pos hw]
  exact wp_append ho T hS k hk hs hx hr h1 hlen hby h

/-- A call of function number f, as a step. -/
theorem wp_call {o : Oper} {a : Act} {K : Act → World → Prop} {Q : Exit → Act → World → Prop} {f : FuncId} {xs : List Operand} {ts : Array TypeId} {vs : List Value} {R : Ending → World → Prop}
    (ho : o.op = .call { callee := .value (.func f), args := xs.toArray, argTypes := ts }) (hf : ∀ (args : Array Value) (w : World), (callFunc f args).run P w = .ok (.enter f args) w)
    (hx : xs.map a.eval = vs) (hc : Calls P f vs.toArray w R) (h : ∀ e w', R e w' → ∃ v, e = .returned v ∧ K (a.put o.dst v) w') : o.wp P a w K Q := by
  unfold Oper.wp execOp
  have hv : a.eval (.func f) = .func (.func f) #[] #[] := rfl
  have hx' : Array.map a.eval xs.toArray = vs.toArray := by rw [← hx]; simp
  simp only [ho, resolve, hv, hx', Deferred.ofValue, Sem.run_bind, Sem.run_pure, Result.andThen_ok, invoke, Array.append_empty, Array.empty_append, hf]
  refine hc.mono fun e w' hr => ?_
  obtain ⟨v, rfl, hk⟩ := h e w' hr
  exact hk
theorem step_call {yl : Nat → Option Bool} {o : Oper} {a : Act} {K : Act → World → Prop} {Q : Exit → Act → World → Prop} {E : Prop} {f : FuncId} {xs : List Operand} {ts : Array TypeId} {vs : List Value} {R : Ending → World → Prop}
    (hw : Region.wanted o yl = true) (ho : o.op = .call { callee := .value (.func f), args := xs.toArray, argTypes := ts }) (hf : ∀ (args : Array Value) (w : World), (callFunc f args).run P w = .ok (.enter f args) w)
    (hx : xs.map a.eval = vs) (hc : Calls P f vs.toArray w R) (h : ∀ e w', R e w' → ∃ v, e = .returned v ∧ K (a.put o.dst v) w') : if Region.wanted o yl = true then Oper.wp P o a w K Q else E := by
  rw [if_pos hw]
  exact wp_call ho hf hx hc h

/-- 'append(nil, x...)': a new chunk. -/
theorem wl_append0 {ops : Array Oper} {rest : List Oper} {o : Oper} {a : Act} {Q : Exit → Act → World → Prop} (hgd : o.guard = none) {s x : Operand} {t e : TypeId} {size bytes : Nat}
    (ho : o.op = .call { callee := .builtin .append, args := #[s, x], argTypes := #[t, t] }) (T : RowTy P t e size bytes)
    (hS : St w0 M w H) (hs : a.eval s = .slice none 0 0)
    {y : Value} {m : Nat} {ys : List Value} (hx : a.eval x = y) (hr : Rd w y size m ys) (h1 : ∀ u ∈ ys, u.oneCell' = true) (hlen : m ≤ 4294967296) (hby : bytes ≤ 32768)
    (h : ∀ A' c' w', St w0 M w' (.row (.slice A' m c') e size m ys :: H) → wpList P ops Q rest (a.put o.dst (.slice A' m c')) w') : wpList P ops Q (o :: rest) a w := by
  have hS' : St w0 M w (.row (.slice none 0 0) e size 0 [] :: H) := hS.row (Below.refl _ _) (World.ownsRow_nil _ _ _ _)
  refine wl_append hgd ho T hS' 0 rfl hs hx hr h1 (by omega) hby fun A' c' w' h2 => ?_
  simp only [Nat.zero_add, List.nil_append, List.set_cons_zero] at h2 ⊢
  exact h A' c' w' h2

/-- A row of new cells that a literal made. -/
theorem rd_new (w : World) (us : List Value) (e : TypeId) (size n : Nat) (hl : us.length = n * size) (hn : n ≤ maxLen) : Rd (w.alloc (.cells us.toArray e)) (.slice (some ⟨w.heap.size, 0, none⟩) n n) size n us :=
  ⟨_, n, rfl, hl, Nat.le_refl _, hn, (fun h => by cases h), fun b o sp hA => by
    injection hA with hA
    injection hA with hb ho hsp
    subst hb ho hsp
    refine ⟨fun _ => rfl, fun j u hu => ?_⟩
    rw [Nat.zero_add, World.cell?_alloc_new]
    simpa using hu⟩

/-- 'append(s, x)' behind the literal that holds x. -/
theorem wl_append1 {ops : Array Oper} {rest : List Oper} {o : Oper} {a : Act} {Q : Exit → Act → World → Prop} (hgd : o.guard = none) {s x : Operand} {t e e' : TypeId} {bytes : Nat}
    (ho : o.op = .call { callee := .builtin .append, args := #[s, x], argTypes := #[t, t] }) (T : RowTy P t e 1 bytes)
    (hS : St w0 M w H) (k : Nat) {v : Value} {n : Nat} {xs : List Value} (hk : H[k]? = some (.row v e 1 n xs)) (hs : a.eval s = v)
    {m : Nat} {us : List Value} (hx : a.eval x = .slice (some ⟨w.heap.size, 0, none⟩) m m) (hm : us.length = m) (h1 : ∀ u ∈ us, u.oneCell' = true) (hlen : n + m ≤ 4294967296) (hby : bytes ≤ 32768)
    (h : ∀ A' c' w', St w0 M w' (H.set k (.row (.slice A' (n + m) c') e 1 (n + m) (xs ++ us))) → wpList P ops Q rest (a.put o.dst (.slice A' (n + m) c')) w') : wpList P ops Q (o :: rest) a (w.alloc (.cells us.toArray e')) :=
  wl_append hgd ho T (hS.skip _) k hk hs hx (rd_new w us e' 1 m (by omega) (by unfold maxLen; omega)) h1 hlen hby h
end

section
variable {P : Program} {w0 w : World} {M : Nat → Prop} {H : List Chunk}
/-- 'append(s, x)' behind the literal that holds x, a struct. -/
theorem wl_appendN {ops : Array Oper} {rest : List Oper} {o : Oper} {a : Act} {Q : Exit → Act → World → Prop} (hgd : o.guard = none) {s x : Operand} {t e e' : TypeId} {size bytes : Nat}
    (ho : o.op = .call { callee := .builtin .append, args := #[s, x], argTypes := #[t, t] }) (T : RowTy P t e size bytes)
    (hS : St w0 M w H) (k : Nat) {v : Value} {n : Nat} {xs : List Value} (hk : H[k]? = some (.row v e size n xs)) (hs : a.eval s = v)
    {m : Nat} {us : List Value} (hx : a.eval x = .slice (some ⟨w.heap.size, 0, none⟩) m m) (hm : us.length = m * size) (h1 : ∀ u ∈ us, u.oneCell' = true) (hlen : n + m ≤ 4294967296) (hby : bytes ≤ 32768)
    (h : ∀ A' c' w', St w0 M w' (H.set k (.row (.slice A' (n + m) c') e size (n + m) (xs ++ us))) → wpList P ops Q rest (a.put o.dst (.slice A' (n + m) c')) w') : wpList P ops Q (o :: rest) a (w.alloc (.cells us.toArray e')) :=
  wl_append hgd ho T (hS.skip _) k hk hs hx (rd_new w us e' size m hm (by unfold maxLen; omega)) h1 hlen hby h
end

/-! A map with keys of an integer type, made and filled by a literal. -/
section
variable {P : Program} {w0 w : World} {M : Nat → Prop} {H : List Chunk}
theorem run_checkKey_int {k : TypeId} {q : IntKind} (hk : P.underlying k = some (.int q)) (b : Bool) (m : Nat) (n : Int) (w : World) : (Instr.checkKey b (m + 1) k (.int q n)).run P w = .ok () w := by
  unfold Instr.checkKey
  simp [run_underlying hk]
theorem run_insert_int {t k e : TypeId} {q : IntKind} (ht : P.underlying t = some (.map k e)) (hk : P.underlying k = some (.int q)) {b clock : Nat} {es : Array MapEntry} (hb : w.heap[b]? = some (.map es clock)) (n : Int) (v : Value)
    (hf : Instr.findNow (.int q) (.int q n) es.toList 0 = some none) :
    (Instr.mapUpdate t (.map (some b)) (.int q n) v).run P w = .ok () (ChangeMaps.setBlock w b (.map (es.push ⟨.int q n, v, clock⟩) (clock + 1))) := by
  simp [Instr.mapUpdate, run_checkKey_int hk _ 9999, Instr.findKey, run_underlying ht, run_underlying hk, MapKept.run_getObj_map hb, hf, MapKept.run_setObj_map _ hb, Result.andThen, ChangeMaps.setBlock]
theorem run_lookup_int {t k e : TypeId} {q : IntKind} (ht : P.underlying t = some (.map k e)) (hk : P.underlying k = some (.int q)) {b clock : Nat} {es : Array MapEntry} (hb : w.heap[b]? = some (.map es clock)) (n : Int) {z : Value} (hz : (zeroValue e).run P w = .ok z w)
    {r : Option (Nat × Value)} (hf : Instr.findNow (.int q) (.int q n) es.toList 0 = some r) :
    (Instr.lookup t (.map (some b)) (.int q n) false).run P w = .ok ((r.map (·.2)).getD z) w := by
  cases r <;> simp [Instr.lookup, run_checkKey_int hk _ 9999, Instr.findKey, run_underlying ht, run_underlying hk, MapKept.run_getObj_map hb, hf, hz, Result.andThen]
theorem wl_insert {ops : Array Oper} {rest : List Oper} {o : Oper} {a : Act} {Q : Exit → Act → World → Prop} (hgd : o.guard = none) {m x v : Operand} {t k e : TypeId} {q : IntKind}
    (ho : o.op = .insert t m x v) (ht : P.underlying t = some (.map k e)) (hk : P.underlying k = some (.int q))
    (hS : St w0 M w H) (i : Nat) {b clock : Nat} {es : Array MapEntry} (hi : H[i]? = some (.obj b (.map es clock))) (hm : a.eval m = .map (some b)) {n : Int} (hx : a.eval x = .int q n) {y : Value} (hv : a.eval v = y)
    (hf : Instr.findNow (.int q) (.int q n) es.toList 0 = some none)
    (h : ∀ w', St w0 M w' (H.set i (.obj b (.map (es.push ⟨.int q n, y, clock⟩) (clock + 1)))) → wpList P ops Q rest (a.put o.dst undef) w') : wpList P ops Q (o :: rest) a w := by
  refine wpList_plain hgd fun K' hK' => ?_
  have hrun := run_insert_int (P := P) ht hk (hS.sat i _ hi : w.heap[b]? = _) n y hf
  unfold Oper.wp
  simp [execOp, ho, hm, hx, hv, hrun, Result.andThen]
  exact hK' _ _ (h _ (hS.setObj i hi _))
theorem wl_lookup {ops : Array Oper} {rest : List Oper} {o : Oper} {a : Act} {Q : Exit → Act → World → Prop} (hgd : o.guard = none) {m x : Operand} {t k e : TypeId} {q : IntKind}
    (ho : o.op = .lookup t m x false) (ht : P.underlying t = some (.map k e)) (hk : P.underlying k = some (.int q)) {z : Value} (hz : (zeroValue e).run P w = .ok z w)
    {b clock : Nat} {es : Array MapEntry} (hb : w.heap[b]? = some (.map es clock)) (hm : a.eval m = .map (some b)) {n : Int} (hx : a.eval x = .int q n) {r : Option (Nat × Value)}
    (hf : Instr.findNow (.int q) (.int q n) es.toList 0 = some r)
    (h : wpList P ops Q rest (a.put o.dst ((r.map (·.2)).getD z)) w) : wpList P ops Q (o :: rest) a w := by
  refine wpList_plain hgd fun K' hK' => ?_
  have hrun := run_lookup_int (P := P) ht hk hb n hz hf
  unfold Oper.wp
  simp [execOp, ho, hm, hx, hrun, Result.andThen]
  exact hK' _ _ h
/-- A call through a function value. -/
theorem wp_callv {o : Oper} {a : Act} {K : Act → World → Prop} {Q : Exit → Act → World → Prop} {c : Operand} {f : FuncId} {first cap : Array Value} {xs : List Operand} {ts : Array TypeId} {vs : Array Value} {R : Ending → World → Prop}
    (ho : o.op = .call { callee := .value c, args := xs.toArray, argTypes := ts }) (hcv : a.eval c = .func (.func f) first cap) (hf : ∀ (args : Array Value) (w : World), (callFunc f args).run P w = .ok (.enter f args) w)
    (hx : first ++ (xs.map a.eval).toArray ++ cap = vs) (hc : Calls P f vs w R) (h : ∀ e w', R e w' → ∃ v, e = .returned v ∧ K (a.put o.dst v) w') : o.wp P a w K Q := by
  unfold Oper.wp execOp
  have hx' : first ++ Array.map a.eval xs.toArray ++ cap = vs := by rw [← hx]; simp
  simp only [ho, resolve, hcv, Deferred.ofValue, Sem.run_bind, Sem.run_pure, Result.andThen_ok, invoke, hx', hf]
  refine hc.mono fun e w' hr => ?_
  obtain ⟨v, rfl, hk⟩ := h e w' hr
  exact hk
theorem wl_callv {ops : Array Oper} {rest : List Oper} {o : Oper} {a : Act} {Q : Exit → Act → World → Prop} (hgd : o.guard = none) {c : Operand} {f : FuncId} {first cap : Array Value} {xs : List Operand} {ts : Array TypeId} {vs : Array Value} {R : Ending → World → Prop}
    (ho : o.op = .call { callee := .value c, args := xs.toArray, argTypes := ts }) (hcv : a.eval c = .func (.func f) first cap) (hf : ∀ (args : Array Value) (w : World), (callFunc f args).run P w = .ok (.enter f args) w)
    (hx : first ++ (xs.map a.eval).toArray ++ cap = vs) (hc : Calls P f vs w R) (h : ∀ e w', R e w' → ∃ v, e = .returned v ∧ wpList P ops Q rest (a.put o.dst v) w') : wpList P ops Q (o :: rest) a w :=
  wpList_plain hgd fun _ hK => wp_callv ho hcv hf hx hc fun e w' hr => by
    obtain ⟨v, he, hk⟩ := h e w' hr
    exact ⟨v, he, hK _ _ hk⟩
theorem wl_makeFunc {ops : Array Oper} {rest : List Oper} {o : Oper} {a : Act} {Q : Exit → Act → World → Prop} (hgd : o.guard = none) {fn : Fn} {first cap : List Operand}
    (ho : o.op = .makeFunc fn first.toArray cap.toArray) {v : Value} (hv : .func fn (first.map a.eval).toArray (cap.map a.eval).toArray = v) (h : wpList P ops Q rest (a.put o.dst v) w) : wpList P ops Q (o :: rest) a w := by
  refine wpList_plain hgd fun K' hK' => ?_
  unfold Oper.wp
  have hv' : Value.func fn (Array.map a.eval first.toArray) (Array.map a.eval cap.toArray) = v := by rw [← hv]; simp
  simp only [execOp, ho, Instr.makeFunc, Sem.run_pure, Sem.run_bind, Result.andThen_ok, hv']
  exact hK' _ _ h
end

/-- A call that hands new bytes back. -/
def ResB (e : TypeId) (w : World) (l : List UInt8) (r : Ending) (w' : World) : Prop := ∃ A c, r = .returned (.slice A l.length c) ∧ Below w.heap.size w w' ∧ w'.ownsRow w.heap.size e 1 (.slice A l.length c) l.length (bvs l)
theorem resB_of {e : TypeId} {w w' : World} {l : List UInt8} {H : List Chunk} {v : Value} {n : Nat} {xs : List Value} (hS : St w NoB w' H) (i : Nat) (hi : H[i]? = some (.row v e 1 n xs)) (hx : xs = bvs l) : ResB e w l (.returned v) w' := by
  have ho := hS.ownsRow i hi
  have hl : n = l.length := by have := ho.1; rw [hx, length_bvs] at this; omega
  subst hx
  subst hl
  obtain ⟨A, c, rfl⟩ := own_slice ho
  exact ⟨A, c, rfl, hS.below, ho⟩
/-- What is read in every world that holds the chunks H. -/
def RdH (w0 : World) (M : Nat → Prop) (H : List Chunk) (y : Value) (size n : Nat) (xs : List Value) : Prop := ∀ w, St w0 M w H → Rd w y size n xs
theorem Rd.rdH {w0 : World} {H : List Chunk} {y : Value} {size n : Nat} {xs : List Value} (h : Rd w0 y size n xs) : RdH w0 NoB H y size n xs := fun _ hS => h.st hS

/-- The text of bytes. -/
@[irreducible] def strOf (l : List UInt8) : ByteArray := ⟨l.toArray⟩
theorem strOf_eq (l : List UInt8) : strOf l = ⟨l.toArray⟩ := by unfold strOf; rfl
@[go_sem] theorem strOf_toList (l : List UInt8) : (strOf l).toList = l := by
  rw [strOf_eq, ByteArray.toList_mk]
theorem run_str {P : Program} {w : World} {src e dst : TypeId} (hs : P.underlying src = some (.slice e)) (he : P.underlying e = some (.int .u8)) (hd : P.underlying dst = some .string) {v : Value} {n : Nat} {l : List UInt8} (hr : Rd w v 1 n (bvs l)) :
    (convert src dst v).run P w = .ok (.string (strOf l)) w := by
  rw [strOf_eq]
  rcases hr.cases with ⟨rfl, rfl, hl⟩ | ⟨b, o, sp, c, rfl, hb, hnc, hcm, hlen, hsp, hc⟩
  · have : l = [] := by
      have := congrArg List.length hl
      rw [length_bvs] at this
      exact List.eq_nil_of_length_eq_zero this
    subst this
    exact run_convert_bytes_nil w src e hs he 0 0 dst hd
  · rw [length_bvs] at hlen
    by_cases h0 : n = 0
    · subst h0
      have : l = [] := List.eq_nil_of_length_eq_zero (by omega)
      subst this
      rw [run_convert_bytes_string w src dst e _ 0 c hs he hd]
      simp [Conv.bytesToString, loadCells, loadCellsFrom]
      rfl
    · have hsp' : sp = none := hsp (by omega)
      subst hsp'
      have := run_convert_bytes_arg w src e hs he b o n c (l.map fun x => (x.toNat : Int)) (by simp; omega) (fun i hi => by
        rw [hc i (bv (l[i]'(by omega))) (by simp [bvs, List.getElem?_eq_getElem (show i < l.length by omega)])]
        simp [bv, List.getD, List.getElem?_eq_getElem (show i < l.length by omega)]) dst hd
      rw [this]
      have e : strOfNums (l.map fun x => (x.toNat : Int)) = ⟨l.toArray⟩ := by
        unfold strOfNums
        congr 2
        rw [List.map_map]
        conv => rhs; rw [← List.map_id l]
        refine List.map_congr_left fun x _ => ?_
        simp
      rw [e]
end Go.Proofs.Ythpioncehigoaaa
