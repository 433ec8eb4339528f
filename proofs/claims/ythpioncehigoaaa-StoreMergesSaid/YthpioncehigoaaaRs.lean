/-
  A slice of a slice: what is read.
  No program is named here.
-/
import Derived.Test.YthpioncehigoaaaMem
import Derived.Deep.Onto
set_option linter.unusedSimpArgs false
set_option linter.unusedVariables false
namespace Go.Proofs.Ythpioncehigoaaa
open Go.RowKit

/-- What a part of a call holds, added to what was held before it. -/
theorem St.join {w0 w w' : World} {M : Nat → Prop} {H H' : List Chunk} (h : St w0 M w H) (h' : St w NoB w' H') : St w0 M w' (H' ++ H) := by
  have hk := h.call h'.below
  have key : ∀ (i : Nat) (c : Chunk), (H' ++ H)[i]? = some c → (i < H'.length ∧ H'[i]? = some c) ∨ (H'.length ≤ i ∧ H[i - H'.length]? = some c) := fun i c hc => by
    rw [List.getElem?_append] at hc
    split at hc
    · rename_i hlt; exact .inl ⟨hlt, hc⟩
    · rename_i hlt; exact .inr ⟨by omega, hc⟩
  have hnew : ∀ (i : Nat) (c : Chunk) (k : Nat), H'[i]? = some c → c.block = some k → w.heap.size ≤ k := fun i c k hc hb => by
    rcases h'.own i c k hc hb with h1 | h1
    · exact h1
    · exact h1.elim
  have hold : ∀ (i : Nat) (c : Chunk) (k : Nat), H[i]? = some c → c.block = some k → k < w.heap.size := fun i c k hc hb => Chunk.lt (h.sat i c hc) hb
  refine ⟨hk.ext, fun i c hc => ?_, fun i c k hc hb => ?_, fun i j c d k hij hc hd hb hb' => ?_⟩
  · rcases key i c hc with ⟨_, h1⟩ | ⟨_, h1⟩
    · exact h'.sat i c h1
    · exact hk.sat _ c h1
  · rcases key i c hc with ⟨_, h1⟩ | ⟨_, h1⟩
    · exact .inl (Nat.le_trans h.ext.size (hnew i c k h1 hb))
    · exact h.own _ c k h1 hb
  · rcases key i c hc with ⟨l1, h1⟩ | ⟨l1, h1⟩ <;> rcases key j d hd with ⟨l2, h2⟩ | ⟨l2, h2⟩
    · exact h'.apart i j c d k hij h1 h2 hb hb'
    · have := hnew i c k h1 hb
      have := hold _ d k h2 hb'
      omega
    · have := hold _ c k h1 hb
      have := hnew j d k h2 hb'
      omega
    · exact h.apart _ _ c d k (by omega) h1 h2 hb hb'
theorem rd_takeG {w : World} {A : Option Addr} {n c size : Nat} {xs : List Value} (h : Rd w (.slice A n c) size n xs) (k : Nat) (hk : k ≤ n) : Rd w (.slice A k c) size k (xs.take (k * size)) := by
  obtain ⟨A', c', e, h1, h2, h3, h4, h5⟩ := h
  injection e with e1 _ e3
  subst e1 e3
  have hks : k * size ≤ n * size := Nat.mul_le_mul_right size hk
  refine ⟨_, _, rfl, by rw [List.length_take]; omega, by omega, by omega, h4, fun b o sp hA => ?_⟩
  obtain ⟨k1, k2⟩ := h5 b o sp hA
  refine ⟨fun hn => k1 (by omega), fun j u hu => k2 j u ?_⟩
  rw [← hu]
  have hj : j < k * size := by
    have := (List.getElem?_eq_some_iff.1 hu).1
    rw [List.length_take] at this
    omega
  simp [List.getElem?_take, hj]
/-- 's[k:]', its value and what it reads as. -/
theorem rd_dropG {w : World} {A : Option Addr} {n c size : Nat} {xs : List Value} (h : Rd w (.slice A n c) size n xs) (k : Nat) (hk : k ≤ n) (hs : 0 < size) : Rd w (sliced A k n c size) size (n - k) (xs.drop (k * size)) := by
  obtain ⟨A', c', e, h1, h2, h3, h4, h5⟩ := h
  injection e with e1 _ e3
  subst e1 e3
  have hks : k * size ≤ n * size := Nat.mul_le_mul_right size hk
  have hlen : (xs.drop (k * size)).length = (n - k) * size := by rw [List.length_drop, h1, Nat.sub_mul]
  unfold sliced
  by_cases hc : c = k
  · have hn : n = k := by omega
    subst hn
    subst hc
    rw [if_pos rfl]
    refine ⟨A, c - c, rfl, hlen, by omega, by omega, fun _ => by omega, fun b o sp hA => ⟨fun hn => by simp at hn, fun j u hu => ?_⟩⟩
    have := (List.getElem?_eq_some_iff.1 hu).1
    rw [hlen] at this
    simp at this
  · rw [if_neg hc]
    cases A with
    | none => have := h4 rfl; omega
    | some a =>
      obtain ⟨b, o, sp⟩ := a
      obtain ⟨k1, k2⟩ := h5 b o sp rfl
      refine ⟨_, c - k, rfl, hlen, by omega, by omega, (fun h => by cases h), fun b' o' sp' hA => ?_⟩
      by_cases h0 : 0 < n
      · obtain rfl := k1 (Nat.mul_pos h0 hs)
        simp only [Option.map_some, Addr.add_lit, Option.some.injEq, Addr.mk.injEq] at hA
        obtain ⟨rfl, rfl, rfl⟩ := hA
        refine ⟨fun _ => rfl, fun j u hu => ?_⟩
        rw [List.getElem?_drop] at hu
        have := k2 (k * size + j) u hu
        rwa [← Nat.add_assoc] at this
      · have hn : n = 0 := by omega
        subst hn
        refine ⟨fun hn => by simp at hn, fun j u hu => ?_⟩
        have := (List.getElem?_eq_some_iff.1 hu).1
        rw [hlen] at this
        simp at this
section
variable {P : Program}
theorem run_dropG {t : TypeId} {size : Nat} (ht : P.underlying t = some (.slice (P.elem t))) (hs : ∀ W : World, (sizeOf (P.elem t)).run P W = .ok size W) (A : Option Addr) (n c k : Nat) (hk : k ≤ n) (W : World) :
    (Instr.sliceAt t (.slice A n c) (some (.int .i64 (k : Int))) none none).run P W = .ok (sliced A k n c size) W := by
  rw [run_sliceAt_slice W t _ _ _ _ ht, run_slice_l W t A n c ht .i64 (k : Int) (by omega) (by omega), hs]
  rfl
theorem run_takeG {t : TypeId} {size : Nat} (ht : P.underlying t = some (.slice (P.elem t))) (hs : ∀ W : World, (sizeOf (P.elem t)).run P W = .ok size W) (A : Option Addr) (n c k : Nat) (hk : k ≤ c) (hA : A = none → c = 0) (W : World) :
    (Instr.sliceAt t (.slice A n c) none (some (.int .i64 (k : Int))) none).run P W = .ok (.slice A k c) W := by
  rw [run_sliceAt_slice W t _ _ _ _ ht, run_slice_h W t A n c ht .i64 (k : Int) (by omega) (by omega), hs]
  show Result.ok (sliced A 0 ((k : Int)).toNat c size) W = _
  have e : sliced A 0 k c size = .slice A k c := by
    unfold sliced
    by_cases h0 : c = 0
    · rw [if_pos h0]; simp
    · rw [if_neg h0]
      cases A with
      | none => exact absurd (hA rfl) h0
      | some a => cases a; simp [Addr.add]
  rw [Int.toNat_natCast, e]
end
end Go.Proofs.Ythpioncehigoaaa
