/-
  A slice of a slice: what is read.
  No program is named here.
-/
import Derived.Test.YtjamoifenkdneaaMem
import Derived.Deep.Onto
namespace Go.Proofs.Ytjamoifenkdneaa
open Go.RowKit

theorem rd_takeG {w : World} {A : Option Addr} {n c size : Nat} {xs : List Value} (h : Rd w (.slice A n c) size n xs) (k : Nat) (hk : k ≤ n) : Rd w (.slice A k c) size k (xs.take (k * size)) := by
  obtain ⟨A', c', e, h1, h2, h3, h4, h5⟩ := h
  injection e with e1 _ e3
  subst e1 e3
  have hks : k * size ≤ n * size := Nat.mul_le_mul_right size hk
  refine ⟨_, _, rfl, by rw [List.length_take]; omega, by omega, by omega, h4, fun b o sp hA => ?_⟩
  obtain ⟨k1, k2⟩ := h5 b o sp hA
  refine ⟨fun hn => k1 (by omega), fun j u hu => k2 j u ?_⟩
  rw [← hu]
  have hj : j < k * size := by
    have := (List.getElem?_eq_some_iff.1 hu).1
    rw [List.length_take] at this
    omega
  simp [List.getElem?_take, hj]
/-- 's[k:]', its value and what it reads as. -/
theorem rd_dropG {w : World} {A : Option Addr} {n c size : Nat} {xs : List Value} (h : Rd w (.slice A n c) size n xs) (k : Nat) (hk : k ≤ n) (hs : 0 < size) : Rd w (sliced A k n c size) size (n - k) (xs.drop (k * size)) := by
  obtain ⟨A', c', e, h1, h2, h3, h4, h5⟩ := h
  injection e with e1 _ e3
  subst e1 e3
  have hks : k * size ≤ n * size := Nat.mul_le_mul_right size hk
  have hlen : (xs.drop (k * size)).length = (n - k) * size := by rw [List.length_drop, h1, Nat.sub_mul]
  unfold sliced
  by_cases hc : c = k
  · have hn : n = k := by omega
    subst hn
    subst hc
    rw [if_pos rfl]
    refine ⟨A, c - c, rfl, hlen, by omega, by omega, fun _ => by omega, fun b o sp hA => ⟨fun hn => by simp at hn, fun j u hu => ?_⟩⟩
    have := (List.getElem?_eq_some_iff.1 hu).1
    rw [hlen] at this
    simp at this
  · rw [if_neg hc]
    cases A with
    | none => have := h4 rfl; omega
    | some a =>
      obtain ⟨b, o, sp⟩ := a
      obtain ⟨k1, k2⟩ := h5 b o sp rfl
      refine ⟨_, c - k, rfl, hlen, by omega, by omega, (fun h => by cases h), fun b' o' sp' hA => ?_⟩
      by_cases h0 : 0 < n
      · obtain rfl := k1 (Nat.mul_pos h0 hs)
        simp only [Option.map_some, Addr.add_lit, Option.some.injEq, Addr.mk.injEq] at hA
        obtain ⟨rfl, rfl, rfl⟩ := hA
        refine ⟨fun _ => rfl, fun j u hu => ?_⟩
        rw [List.getElem?_drop] at hu
        have := k2 (k * size + j) u hu
        rwa [← Nat.add_assoc] at this
      · have hn : n = 0 := by omega
        subst hn
        refine ⟨fun hn => by simp at hn, fun j u hu => ?_⟩
        have := (List.getElem?_eq_some_iff.1 hu).1
        rw [hlen] at this
        simp at this
section
variable {P : Program}
theorem run_dropG {t : TypeId} {size : Nat} (ht : P.underlying t = some (.slice (P.elem t))) (hs : ∀ W : World, (sizeOf (P.elem t)).run P W = .ok size W) (A : Option Addr) (n c k : Nat) (hk : k ≤ n) (W : World) :
    (Instr.sliceAt t (.slice A n c) (some (.int .i64 (k : Int))) none none).run P W = .ok (sliced A k n c size) W := by
  rw [run_sliceAt_slice W t _ _ _ _ ht, run_slice_l W t A n c ht .i64 (k : Int) (by omega) (by omega), hs]
  rfl
theorem run_takeG {t : TypeId} {size : Nat} (ht : P.underlying t = some (.slice (P.elem t))) (hs : ∀ W : World, (sizeOf (P.elem t)).run P W = .ok size W) (A : Option Addr) (n c k : Nat) (hk : k ≤ c) (hA : A = none → c = 0) (W : World) :
    (Instr.sliceAt t (.slice A n c) none (some (.int .i64 (k : Int))) none).run P W = .ok (.slice A k c) W := by
  rw [run_sliceAt_slice W t _ _ _ _ ht, run_slice_h W t A n c ht .i64 (k : Int) (by omega) (by omega), hs]
  show Result.ok (sliced A 0 ((k : Int)).toNat c size) W = _
  have e : sliced A 0 k c size = .slice A k c := by
    unfold sliced
    by_cases h0 : c = 0
    · rw [if_pos h0]; simp
    · rw [if_neg h0]
      cases A with
      | none => exact absurd (hA rfl) h0
      | some a => cases a; simp [Addr.add]
  rw [Int.toNat_natCast, e]
end
end Go.Proofs.Ytjamoifenkdneaa
