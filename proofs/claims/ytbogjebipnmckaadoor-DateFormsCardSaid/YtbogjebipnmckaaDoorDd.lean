/-
  Layer 8: the reader's offset.
-/
import Derived.Test.YtbogjebipnmckaaDoorDc
namespace Go.Proofs.YtbogjebipnmckaaDoor
open Go.RowKit
set_option linter.unusedSimpArgs false

theorem numF_lt : ∀ (k j : Nat) (l : List UInt8) (n : Nat), n < 10 ^ j → (numF k l n).2.1 < 10 ^ (j + k)
  | 0, j, l, n, h => h
  | k + 1, j, [], n, h => Nat.pow_pos (by omega)
  | k + 1, j, c :: l, n, h => by
    rw [numF]
    split
    · rw [show j + (k + 1) = (j + 1) + k from by omega]
      exact numF_lt k (j + 1) l _ (by rw [Nat.pow_succ]; omega)
    · exact Nat.pow_pos (by omega)
theorem numV_lt (k : Nat) (l : List UInt8) : numV k l < 10 ^ k := by
  have := numF_lt k 0 l 0 (by decide)
  rw [Nat.zero_add] at this
  unfold numV
  exact this
theorem sgV_lt (ss l : List UInt8) : sgV ss l < 256 := by
  unfold sgV
  split
  · exact UInt8.toNat_lt _
  · omega
theorem number_c {w0 : World} {M : Nat → Prop} {H : List Chunk} (g k most : Nat) (l : List UInt8) (b : Bool) (w : World) (hk : k ≤ 4) (hm : most ≤ 9999) (K N : Int) (eK : K = k) (eN : N = most) (hS : St w0 M w (RdC8 g l b H)) :
    Calls Tryd.prog 19 #[.pointer (some ⟨g, 0, none⟩), .int .i64 K, .int .i64 N] w fun e w' => e = .returned (.int .i64 (numV k l : Int)) ∧ St w0 M w' (RdC8 g (numR k l) (b || !numB k l most) H) := by
  subst eK eN
  exact number_any g k most l b w hk hm hS
def zpm : List UInt8 := [90, 43, 45]
def offZ (l : List UInt8) : Bool := decide (sgV zpm l = 90 ∨ sgV zpm l = 0)
/-- What the offset is, what it leaves, is it well. -/
def offV (l : List UInt8) : Int :=
  let l1 := sgR zpm l
  let n : Int := 3600 * (numV 2 l1 : Int) + 60 * (numV 2 (sgR [58] (numR 2 l1)) : Int)
  if offZ l = true then 0 else if sgV zpm l = 45 then - n else n
def offR (l : List UInt8) : List UInt8 := if offZ l = true then sgR zpm l else numR 2 (sgR [58] (numR 2 (sgR zpm l)))
def offB (l : List UInt8) : Bool :=
  let l1 := sgR zpm l
  if offZ l = true then sgB zpm l else sgB zpm l && (numB 2 l1 23 && (sgB [58] (numR 2 l1) && numB 2 (sgR [58] (numR 2 l1)) 59))
set_option maxRecDepth 100000 in
set_option maxHeartbeats 800000 in
theorem offset_any {w0 : World} {M : Nat → Prop} {H : List Chunk} (g : Nat) (l : List UInt8) (b : Bool) (w : World) (hS : St w0 M w (RdC8 g l b H)) :
    Calls Tryd.prog 21 #[.pointer (some ⟨g, 0, none⟩)] w fun e w' => e = .returned (.int .i64 (offV l)) ∧ St w0 M w' (RdC8 g (offR l) (b || !offB l) H) := by
  have HS := hide hS
  clear hS
  have h1 := fun W => sign_any (w0 := w0) (M := M) (H := H) g zpm l b W
  rw [strOf_eq, zpm] at h1
  have HV := hide (show offV l = if offZ l = true then 0 else if sgV zpm l = 45 then - (3600 * (numV 2 (sgR zpm l) : Int) + 60 * (numV 2 (sgR [58] (numR 2 (sgR zpm l))) : Int)) else (3600 * (numV 2 (sgR zpm l) : Int) + 60 * (numV 2 (sgR [58] (numR 2 (sgR zpm l))) : Int)) from rfl)
  have HR := hide (show offR l = if offZ l = true then sgR zpm l else numR 2 (sgR [58] (numR 2 (sgR zpm l))) from rfl)
  have HB := hide (show offB l = if offZ l = true then sgB zpm l else sgB zpm l && (numB 2 (sgR zpm l) 23 && (sgB [58] (numR 2 (sgR zpm l)) && numB 2 (sgR [58] (numR 2 (sgR zpm l))) 59)) from rfl)
  have HZ := hide (show offZ l = decide (sgV zpm l = 90 ∨ sgV zpm l = 0) from rfl)
  have hcl := sgV_lt zpm l
  rw [zpm] at HV HR HB HZ hcl
  obtain ⟨c, hc⟩ : ∃ c, c = sgV [90, 43, 45] l := ⟨_, rfl⟩
  obtain ⟨l1, hl1⟩ : ∃ x, x = sgR [90, 43, 45] l := ⟨_, rfl⟩
  obtain ⟨b1, hb1⟩ : ∃ x, x = sgB [90, 43, 45] l := ⟨_, rfl⟩
  rw [← hc] at h1 HV HZ hcl
  rw [← hl1] at h1 HV HR HB
  rw [← hb1] at h1 HB
  clear hc hl1 hb1
  have h2 := fun W => number_c (w0 := w0) (M := M) (H := H) g 2 23 l1 (b || !b1) W (by omega) (by omega) 2 23 rfl rfl
  obtain ⟨n1, hn1⟩ : ∃ x, x = numV 2 l1 := ⟨_, rfl⟩
  obtain ⟨l2, hl2⟩ : ∃ x, x = numR 2 l1 := ⟨_, rfl⟩
  obtain ⟨b2, hb2⟩ : ∃ x, x = numB 2 l1 23 := ⟨_, rfl⟩
  have hn1b := numV_lt 2 l1
  rw [← hn1] at h2 HV hn1b
  rw [← hl2] at h2 HV HR HB
  rw [← hb2] at h2 HB
  clear hn1 hl2 hb2
  have h3 := fun W => sign_any (w0 := w0) (M := M) (H := H) g [58] l2 ((b || !b1) || !b2) W
  rw [strOf_eq] at h3
  obtain ⟨c3, hc3⟩ : ∃ x, x = sgV [58] l2 := ⟨_, rfl⟩
  obtain ⟨l3, hl3⟩ : ∃ x, x = sgR [58] l2 := ⟨_, rfl⟩
  obtain ⟨b3, hb3⟩ : ∃ x, x = sgB [58] l2 := ⟨_, rfl⟩
  rw [← hc3, ← hl3, ← hb3] at h3
  rw [← hl3] at HV HR HB
  rw [← hb3] at HB
  clear hc3 hl3 hb3
  have h4 := fun W => number_c (w0 := w0) (M := M) (H := H) g 2 59 l3 (((b || !b1) || !b2) || !b3) W (by omega) (by omega) 2 59 rfl rfl
  obtain ⟨n4, hn4⟩ : ∃ x, x = numV 2 l3 := ⟨_, rfl⟩
  obtain ⟨l4, hl4⟩ : ∃ x, x = numR 2 l3 := ⟨_, rfl⟩
  obtain ⟨b4, hb4⟩ : ∃ x, x = numB 2 l3 59 := ⟨_, rfl⟩
  have hn4b := numV_lt 2 l3
  rw [← hn4] at h4 HV hn4b
  rw [← hl4] at h4 HR
  rw [← hb4] at h4 HB
  clear hn4 hl4 hb4
  have H1 := hide h1
  have H2 := hide h2
  have H3 := hide h3
  have H4 := hide h4
  clear h1 h2 h3 h4
  have e90 : ((c : Int) == 90) = decide (c = 90) := by rw [Bool.eq_iff_iff]; simp; omega
  have e45 : ((c : Int) == 45) = decide (c = 45) := by rw [Bool.eq_iff_iff]; simp; omega
  have e0 : ((c : Int) == 0) = decide (c = 0) := by rw [Bool.eq_iff_iff]; simp
  by_cases hc90 : c = 90
  · have HG := hide (show offZ l = true by rw [HZ.out, hc90]; decide)
    rw [decide_eq_true hc90] at e90
    clear hc90
    go_enter Tryd.func21, Tryd.ntmps21
    go_wp2_with (go_at_call 20; (with_reducible refine (H1.out _ HS.out).mono ?_); rintro e w' ⟨rfl, hS⟩; have HS := hide hS; clear hS)
    go_ret
    rw [HV.out, HR.out, HB.out, if_pos HG.out, if_pos HG.out, if_pos HG.out]
    exact ⟨rfl, HS.out⟩
  · by_cases hc0 : c = 0
    · have HG := hide (show offZ l = true by rw [HZ.out, hc0]; decide)
      rw [decide_eq_true hc0] at e0
      rw [decide_eq_false hc90] at e90
      clear hc90 hc0
      go_enter Tryd.func21, Tryd.ntmps21
      go_wp2_with (go_at_call 20; (with_reducible refine (H1.out _ HS.out).mono ?_); rintro e w' ⟨rfl, hS⟩; have HS := hide hS; clear hS)
      go_ret
      rw [HV.out, HR.out, HB.out, if_pos HG.out, if_pos HG.out, if_pos HG.out]
      exact ⟨rfl, HS.out⟩
    · have HG := hide (show ¬ (offZ l = true) by rw [HZ.out, decide_eq_true_iff]; omega)
      rw [decide_eq_false hc0] at e0
      rw [decide_eq_false hc90] at e90
      have hbb : ((((b || !b1) || !b2) || !b3) || !b4) = (b || !(b1 && (b2 && (b3 && b4)))) := by cases b <;> cases b1 <;> cases b2 <;> cases b3 <;> cases b4 <;> rfl
      have HBB := hide hbb
      clear hc90 hc0 hbb
      have hn1' : n1 < 100 := hn1b
      have hn4' : n4 < 100 := hn4b
      clear hn1b hn4b
      by_cases hc45 : c = 45
      · have HC := hide hc45
        rw [decide_eq_true hc45] at e45
        clear hc45
        go_enter Tryd.func21, Tryd.ntmps21
        go_wp2_with (first
          | (go_at_call 20; (with_reducible refine (H1.out _ HS.out).mono ?_); rintro e w' ⟨rfl, hS⟩; have HS := hide hS; clear hS)
          | (go_at_call 19; (with_reducible refine (H2.out _ HS.out).mono ?_); rintro e w' ⟨rfl, hS⟩; have HS := hide hS; clear hS)
          | (go_at_call 20; (with_reducible refine (H3.out _ HS.out).mono ?_); rintro e w' ⟨rfl, hS⟩; have HS := hide hS; clear hS)
          | (go_at_call 19; (with_reducible refine (H4.out _ HS.out).mono ?_); rintro e w' ⟨rfl, hS⟩; have HS := hide hS; clear hS))
        go_ret
        rw [HV.out, HR.out, HB.out, if_neg HG.out, if_neg HG.out, if_neg HG.out, if_pos HC.out, ← HBB.out]
        exact ⟨rfl, HS.out⟩
      · have HC := hide hc45
        rw [decide_eq_false hc45] at e45
        clear hc45
        go_enter Tryd.func21, Tryd.ntmps21
        go_wp2_with (first
          | (go_at_call 20; (with_reducible refine (H1.out _ HS.out).mono ?_); rintro e w' ⟨rfl, hS⟩; have HS := hide hS; clear hS)
          | (go_at_call 19; (with_reducible refine (H2.out _ HS.out).mono ?_); rintro e w' ⟨rfl, hS⟩; have HS := hide hS; clear hS)
          | (go_at_call 20; (with_reducible refine (H3.out _ HS.out).mono ?_); rintro e w' ⟨rfl, hS⟩; have HS := hide hS; clear hS)
          | (go_at_call 19; (with_reducible refine (H4.out _ HS.out).mono ?_); rintro e w' ⟨rfl, hS⟩; have HS := hide hS; clear hS))
        go_ret
        rw [HV.out, HR.out, HB.out, if_neg HG.out, if_neg HG.out, if_neg HG.out, if_neg HC.out, ← HBB.out]
        exact ⟨rfl, HS.out⟩
end Go.Proofs.YtbogjebipnmckaaDoor
