/-
  Fields of both programs, one contract each; a row of one's own whose cells are written; a literal as a row.
-/
import Derived.Test.YtcfonifaijeecaaPw14
import Derived.Test.YtcfonifaijeecaaPl
namespace Go.Proofs.Ytcfonifaijeecaa
open Go.RowKit

def FsR.lst : FsR → List FdV
  | .ok l => l
  | .bad _ => []
def FsR.err : FsR → Nat
  | .ok _ => 0
  | .bad k => k
/-- What Fields hands back, ok or not. -/
def ResFA (w : World) (r : FsR) (e : Ending) (w' : World) : Prop :=
  ∃ (xs : List FdL) (B : Option Addr) (d : Nat), e = .returned (.tuple #[.slice B xs.length d, .int .i64 ((r.err : Nat) : Int)]) ∧ FAt w' (.slice B xs.length d) xs ∧ xs.map FdL.f = r.lst ∧ Below w.heap.size w w'
theorem resFA_of {e : TypeId} {w : World} {r : FsR} {x : Ending} {w' : World} (h : ResF e w r x w') : ResFA w r x w' := by
  cases r with
  | ok fs =>
    obtain ⟨xs, A, c, rfl, hx, hS⟩ := h
    exact ⟨xs, A, c, rfl, fat_res hS, hx, hS.below⟩
  | bad k =>
    obtain ⟨rfl, hb⟩ := h
    exact ⟨[], none, 0, rfl, ⟨rd_nil _ _, fun x hx => by cases hx⟩, rfl, hb⟩
theorem fields_any (w : World) (A : Option Addr) (n c : Nat) (l : List UInt8) (hn : l.length = n) (hl : l.length ≤ 65536) (hr : Rd w (.slice A n c) 1 n (bvs l)) :
    Calls Try.prog 22 #[.slice A n c] w (ResFA w (fds l)) := by
  subst hn
  exact (fields_walk w A c l hl hr).mono fun _ _ h => resFA_of h
theorem pfields_any (w : World) (A : Option Addr) (n c : Nat) (l : List UInt8) (hn : l.length = n) (hl : l.length ≤ 65536) (hr : Rd w (.slice A n c) 1 n (bvs l)) :
    Calls Try.prog 23 #[.slice A n c] w (ResFA w (fds l)) := by
  subst hn
  exact (pfields_walk w A c l hl hr).mono fun _ _ h => resFA_of h

section
variable {P : Program} {w0 w : World} {M : Nat → Prop} {H : List Chunk}
/-- A literal's block is a row of one's own. -/
theorem St.lit (h : St w0 M w H) (us : List Value) (e : TypeId) (size n : Nat) (hl : us.length = n * size) (hn : n ≤ maxLen) :
    St w0 M (w.alloc (.cells us.toArray e)) (.row (.slice (some ⟨w.heap.size, 0, none⟩) n n) e size n us :: H) := by
  refine h.add ((Below.refl _ _).alloc (Nat.le_refl _) _) ?_ (fun k hk => ?_)
  · exact ⟨hl, .inr ⟨w.heap.size, n, us.toArray, rfl, Nat.zero_le _, heap_alloc_new w _, Nat.le_refl _, hn, by simpa using hl, by rw [← hl]; simp⟩⟩
  · simp only [Chunk.block, Value.ownBlock, Option.some.injEq] at hk
    omega
/-- A row of one's own, opened for a store. -/
theorem St.rowOpen (h : St w0 M w H) (i : Nat) {v : Value} {e : TypeId} {size n : Nat} {xs : List Value} (hi : H[i]? = some (.row v e size n xs)) (hpos : 0 < n * size) :
    ∃ g c, v = .slice (some ⟨g, 0, none⟩) n c ∧ n ≤ c ∧ c ≤ maxLen ∧ (∀ (j : Nat) (u : Value), xs[j]? = some u → w.cell? ⟨g, j, none⟩ = some u) ∧ (∀ j, w.frozen? ⟨g, j, none⟩ = false) ∧
      ∀ (j : Nat) (u : Value), j < n * size → St w0 M (w.setCell ⟨g, j, none⟩ u) (H.set i (.row v e size n (xs.set j u))) := by
  have hs : w.ownsRow 0 e size v n xs := h.sat i _ hi
  obtain ⟨h1, h2⟩ := hs
  rcases h2 with ⟨rfl, rfl⟩ | ⟨g, cap, cur, rfl, hg, hh, hn, hm, hc, ht⟩
  · simp at hpos
  · refine ⟨g, cap, rfl, hn, hm, fun j u hu => ?_, fun j => frozen_of_row w g j cur e hh, fun j u hj => ?_⟩
    · rw [cell_of_row w g j cur e (0, 0) hh]
      rw [← ht, List.getElem?_take] at hu
      split at hu
      · simpa using hu
      · cases hu
    · refine h.turn hi (ext_setCell w ⟨g, j, none⟩ u) ?_ (fun k hk => .inl hk)
      refine ⟨by simpa using h1, .inr ⟨g, cap, cur.setIfInBounds j u, rfl, hg, heap_setCell_same w g j cur e u hh, hn, hm, by simpa using hc, ?_⟩⟩
      rw [Array.toList_setIfInBounds, ← ht, List.take_set]
end
end Go.Proofs.Ytcfonifaijeecaa
