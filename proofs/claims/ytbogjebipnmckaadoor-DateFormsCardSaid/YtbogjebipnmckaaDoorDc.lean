/-
  Layer 8: the reader: number, sign, offset.
-/
import Derived.Test.YtbogjebipnmckaaDoorDb
import Derived.Test.YtbogjebipnmckaaDoorIb
namespace Go.Proofs.YtbogjebipnmckaaDoor
open Go.RowKit
set_option linter.unusedSimpArgs false

theorem strOf_size (l : List UInt8) : (strOf l).size = l.length := by rw [strOf_eq]; simp [ByteArray.size]
theorem run_idx0 {P : Program} {t : TypeId} (ht : P.underlying t = some .string) (c : UInt8) (l : List UInt8) (W : World) :
    (Instr.index t (.string (strOf (c :: l))) (.int .i64 0)).run P W = .ok (.int .u8 (c.toNat : Int)) W := by
  rw [run_index_string W t _ _ _ ht, dif_pos ⟨by omega, by rw [strOf_size]; simp⟩]
  simp only [strOf_eq]
  rfl
theorem run_tail {P : Program} {t : TypeId} (ht : P.underlying t = some .string) (c : UInt8) (l : List UInt8) (W : World) :
    (Instr.sliceAt t (.string (strOf (c :: l))) (some (.int .i64 1)) none none).run P W = .ok (.string (strOf l)) W := by
  rw [run_sliceAt_string W t _ _ _ _ ht, run_slice_string_from_if W t _ _ _ ht]
  rw [if_pos ⟨by omega, by rw [strOf_size, List.length_cons]; omega⟩]
  have e : (strOf (c :: l)).extract (Int.toNat 1) (strOf (c :: l)).size = strOf l := by
    rw [strOf_size, strOf_eq, strOf_eq]
    apply ByteArray.ext
    simp
  rw [e]

/-- What number answers: is it well, the number, what is left. -/
def numF : Nat → List UInt8 → Nat → Bool × Nat × List UInt8
  | 0, l, n => (true, n, l)
  | _ + 1, [], _ => (false, 0, [])
  | k + 1, c :: l, n => if 48 ≤ c.toNat ∧ c.toNat ≤ 57 then numF k l (10 * n + (c.toNat - 48)) else (false, 0, c :: l)
@[irreducible] def numV (k : Nat) (l : List UInt8) : Nat := (numF k l 0).2.1
@[irreducible] def numR (k : Nat) (l : List UInt8) : List UInt8 := (numF k l 0).2.2
@[irreducible] def numB (k : Nat) (l : List UInt8) (most : Nat) : Bool := (numF k l 0).1 && decide ((numF k l 0).2.1 ≤ most)
/-- The reader's block. -/
def RdC8 (g : Nat) (l : List UInt8) (b : Bool) (H : List Chunk) : List Chunk := .cells g #[.string (strOf l), .bool b] 38 :: H

def NmRel (w0 : World) (M : Nat → Prop) (H : List Chunk) (g k : Nat) (l : List UInt8) (b : Bool) (v i : Value) (wr : World) : Prop :=
  ∃ (j n : Nat) (t : List UInt8), j ≤ k ∧ i = .int .i64 (j : Int) ∧ v = .int .i64 (n : Int) ∧ n < 10 ^ j ∧ numF (k - j) t n = numF k l 0 ∧ St w0 M wr (RdC8 g t b H)
theorem nm_end (k j n : Nat) (t l : List UInt8) (b : Bool) (most : Nat) (hj : ¬ j < k) (h : numF (k - j) t n = numF k l 0) : n = numV k l ∧ t = numR k l ∧ (b || decide (most < n)) = (b || !numB k l most) := by
  rw [show k - j = 0 from by omega, numF] at h
  unfold numV numR numB
  rw [← h]
  refine ⟨rfl, rfl, ?_⟩
  simp only [Bool.true_and]
  by_cases hm : n ≤ most
  · have : ¬ most < n := by omega
    simp [hm, this]
  · have : most < n := by omega
    simp [hm, this]
theorem nm_nil (k j n : Nat) (l : List UInt8) (b : Bool) (most : Nat) (hj : j < k) (h : numF (k - j) [] n = numF k l 0) : 0 = numV k l ∧ [] = numR k l ∧ true = (b || !numB k l most) := by
  rw [show k - j = (k - j - 1) + 1 from by omega, numF] at h
  unfold numV numR numB
  rw [← h]
  exact ⟨rfl, rfl, by simp⟩
theorem nm_bad (k j n : Nat) (c : UInt8) (t l : List UInt8) (b : Bool) (most : Nat) (hj : j < k) (hc : ¬ (48 ≤ c.toNat ∧ c.toNat ≤ 57)) (h : numF (k - j) (c :: t) n = numF k l 0) : 0 = numV k l ∧ c :: t = numR k l ∧ true = (b || !numB k l most) := by
  rw [show k - j = (k - j - 1) + 1 from by omega, numF, if_neg hc] at h
  unfold numV numR numB
  rw [← h]
  exact ⟨rfl, rfl, by simp⟩
theorem nm_on (k j n : Nat) (c : UInt8) (t l : List UInt8) (hj : j < k) (hc : 48 ≤ c.toNat ∧ c.toNat ≤ 57) (h : numF (k - j) (c :: t) n = numF k l 0) : numF (k - (j + 1)) t (10 * n + (c.toNat - 48)) = numF k l 0 := by
  rw [show k - j = (k - (j + 1)) + 1 from by omega, numF, if_pos hc] at h
  exact h
set_option maxRecDepth 100000 in
set_option maxHeartbeats 800000 in
theorem number_any {w0 : World} {M : Nat → Prop} {H : List Chunk} (g k most : Nat) (l : List UInt8) (b : Bool) (w : World) (hk : k ≤ 4) (hm : most ≤ 9999) (hS : St w0 M w (RdC8 g l b H)) :
    Calls Tryd.prog 19 #[.pointer (some ⟨g, 0, none⟩), .int .i64 (k : Int), .int .i64 (most : Int)] w fun e w' => e = .returned (.int .i64 (numV k l : Int)) ∧ St w0 M w' (RdC8 g (numR k l) (b || !numB k l most) H) := by
  have HS0 := hide hS
  have HK := hide hk
  have HM := hide hm
  clear hS hk hm
  go_enter Tryd.func19, Tryd.ntmps19
  go_wp2_with fail
  go_loopw [7, 9] (fun v i wr => NmRel w0 M H g k l b v i wr) (fun _ i _ => (k - intOf i).toNat)
  case atStart => exact ⟨0, 0, l, by omega, rfl, rfl, by decide, rfl, HS0.out⟩
  case round =>
    obtain ⟨j, n, t, hj, rfl, rfl, hn, hF, hS⟩ := hrel
    have HF := hide hF
    have HS := hide hS
    have HN := hide hn
    clear hF hn
    by_cases hlt : j < k
    · have hd : decide ((j : Int) < (k : Int)) = true := by simp; omega
      have c0 : wr.cell? ⟨g, 0, none⟩ = some (.string (strOf t)) := hS.cell 0 rfl 0
      have c1 : wr.cell? ⟨g, 1, none⟩ = some (.bool b) := hS.cell 0 rfl 1
      have f0 := hS.free 0 rfl 0
      have f1 := hS.free 0 rfl 1
      have HL := hide hlt
      clear hS
      cases t with
      | nil =>
        have HX := hide (nm_nil k j n l b most hlt HF.out)
        clear hlt
        go_wp2_with fail
        go_ret
        obtain ⟨x1, x2, x3⟩ := HX.out
        rw [← x1, ← x2, ← x3]
        exact ⟨rfl, HS.out.setCell 0 rfl 1 (.bool true)⟩
      | cons c t =>
        have hi0 := fun W => run_idx0 (P := Tryd.prog) (t := 9) (by kernel_rfl) c t W
        have ht0 := fun W => run_tail (P := Tryd.prog) (t := 9) (by kernel_rfl) c t W
        have hne : ((c :: t) == ([] : List UInt8)) = false := rfl
        by_cases hc : 48 ≤ c.toNat ∧ c.toNat ≤ 57
        · have HX := hide (nm_on k j n c t l hlt hc HF.out)
          obtain ⟨x, hx⟩ : ∃ x, x = c.toNat := ⟨_, rfl⟩
          rw [← hx] at hi0 HX hc
          obtain ⟨x0, x1⟩ := hc
          have d0 : decide ((x : Int) < 48) = false := by simp; omega
          have d1 : decide (57 < (x : Int)) = false := by simp; omega
          have hn3 : n < 1000 := by
            have := HN.out
            have := HK.out
            have := Nat.pow_le_pow_right (show 0 < 10 by omega) (show j ≤ 3 by omega)
            omega
          have j3 : j ≤ 3 := by have := HK.out; omega
          have WJ : Hid (wrap64 ((j : Int) + 1) = ((j + 1 : Nat) : Int)) := hide (by unfold wrap64; omega)
          have hn' : 10 * n + (x - 48) < 10 ^ (j + 1) := by
            have := HN.out
            rw [Nat.pow_succ]
            omega
          have HN' := hide hn'
          have hJ := hide hj
          clear hn' hx hlt hj
          go_wp2_with fail
          go_round
          case rel => exact ⟨j + 1, 10 * n + (x - 48), t, by have := HL.out; omega, by (have := WJ.out); first | go_num | rw [WJ.out], by go_num, HN'.out, HX.out, HS.out.setCell 0 rfl 0 (.string (strOf t))⟩
          case measure => have := HL.out; have := WJ.out; simp only [intOf]; omega
        · have HX := hide (nm_bad k j n c t l b most hlt hc HF.out)
          obtain ⟨x, hx⟩ : ∃ x, x = c.toNat := ⟨_, rfl⟩
          rw [← hx] at hi0 hc
          clear hlt hx
          by_cases h48 : x < 48
          · have d0 : decide ((x : Int) < 48) = true := by simp; omega
            clear hc
            go_wp2_with fail
            go_ret
            obtain ⟨x1, x2, x3⟩ := HX.out
            rw [← x1, ← x2, ← x3]
            exact ⟨rfl, HS.out.setCell 0 rfl 1 (.bool true)⟩
          · have d0 : decide ((x : Int) < 48) = false := by simp; omega
            have d1 : decide (57 < (x : Int)) = true := by simp; omega
            clear hc
            go_wp2_with fail
            go_ret
            obtain ⟨x1, x2, x3⟩ := HX.out
            rw [← x1, ← x2, ← x3]
            exact ⟨rfl, HS.out.setCell 0 rfl 1 (.bool true)⟩
    · have hd : decide ((j : Int) < (k : Int)) = false := by simp; omega
      have hx := nm_end k j n t l b most hlt HF.out
      have hb1 : n ≤ 9999 := by
        have := HN.out
        have := HK.out
        have := Nat.pow_le_pow_right (show 0 < 10 by omega) (show j ≤ 4 by omega)
        omega
      have hdm : decide ((most : Int) < (n : Int)) = decide (most < n) := by simp
      have c0 : wr.cell? ⟨g, 0, none⟩ = some (.string (strOf t)) := hS.cell 0 rfl 0
      have c1 : wr.cell? ⟨g, 1, none⟩ = some (.bool b) := hS.cell 0 rfl 1
      have f1 := hS.free 0 rfl 1
      have HX := hide hx
      clear hx hS
      cases b
      · go_wp2_with fail
        go_ret
        obtain ⟨x1, x2, x3⟩ := HX.out
        rw [← x1, ← x2, ← x3]
        exact ⟨rfl, HS.out.setCell 0 rfl 1 (.bool (decide (most < n)))⟩
      · go_wp2_with fail
        go_ret
        obtain ⟨x1, x2, x3⟩ := HX.out
        rw [← x1, ← x2, ← x3]
        exact ⟨rfl, HS.out.setCell 0 rfl 1 (.bool true)⟩

/-- What sign answers. -/
def sgB (ss : List UInt8) : List UInt8 → Bool
  | [] => false
  | c :: _ => decide (c ∈ ss)
def sgV (ss : List UInt8) (l : List UInt8) : Nat := if sgB ss l = true then (l.headD 0).toNat else 0
def sgR (ss : List UInt8) (l : List UInt8) : List UInt8 := if sgB ss l = true then l.tail else l
set_option maxRecDepth 100000 in
set_option maxHeartbeats 800000 in
theorem sign_any {w0 : World} {M : Nat → Prop} {H : List Chunk} (g : Nat) (ss l : List UInt8) (b : Bool) (w : World) (hS : St w0 M w (RdC8 g l b H)) :
    Calls Tryd.prog 20 #[.pointer (some ⟨g, 0, none⟩), .string (strOf ss)] w fun e w' => e = .returned (.int .u8 (sgV ss l : Int)) ∧ St w0 M w' (RdC8 g (sgR ss l) (b || !sgB ss l) H) := by
  have HS := hide hS
  have c0 : w.cell? ⟨g, 0, none⟩ = some (.string (strOf l)) := hS.cell 0 rfl 0
  have c1 : w.cell? ⟨g, 1, none⟩ = some (.bool b) := hS.cell 0 rfl 1
  have f0 := hS.free 0 rfl 0
  have f1 := hS.free 0 rfl 1
  clear hS
  cases l with
  | nil =>
    go_enter Tryd.func20, Tryd.ntmps20
    go_wp2_with fail
    go_ret
    refine ⟨rfl, ?_⟩
    rw [show (b || !sgB ss []) = true from by simp [sgB]]
    exact HS.out.setCell 0 rfl 1 (.bool true)
  | cons c t =>
    have hi0 := fun W => run_idx0 (P := Tryd.prog) (t := 9) (by kernel_rfl) c t W
    have ht0 := fun W => run_tail (P := Tryd.prog) (t := 9) (by kernel_rfl) c t W
    have hne : ((c :: t) == ([] : List UInt8)) = false := rfl
    have hx := idx_mem ss c
    have HC := hide (fun W => idx_any ss c W)
    obtain ⟨q, hq⟩ : ∃ q, q = Lib.indexByte ss c := ⟨_, rfl⟩
    rw [← hq] at HC hx
    obtain ⟨x, hxx⟩ : ∃ x, x = c.toNat := ⟨_, rfl⟩
    rw [← hxx] at HC hi0
    have HQ := hide hxx
    clear hq hxx
    by_cases hm : c ∈ ss
    · have hd : decide (q < 0) = false := by rw [hx]; simp [hm]
      have HM := hide hm
      clear hx hm
      go_enter Tryd.func20, Tryd.ntmps20
      go_wp2_with (go_at_call 30; (with_reducible refine (HC.out _).mono ?_); rintro e w' ⟨rfl, rfl⟩)
      go_ret
      have hs : sgB ss (c :: t) = true := by simp [sgB, HM.out]
      unfold sgV sgR
      rw [if_pos hs, if_pos hs, hs, Bool.not_true, Bool.or_false]
      refine ⟨?_, HS.out.setCell 0 rfl 0 (.string (strOf t))⟩
      rw [HQ.out]
      rfl
    · have hd : decide (q < 0) = true := by rw [hx]; simp [hm]
      have HM := hide hm
      clear hx hm
      go_enter Tryd.func20, Tryd.ntmps20
      go_wp2_with (go_at_call 30; (with_reducible refine (HC.out _).mono ?_); rintro e w' ⟨rfl, rfl⟩)
      go_ret
      have hs : sgB ss (c :: t) = false := by simp [sgB, HM.out]
      unfold sgV sgR
      rw [if_neg (by rw [hs]; exact Bool.false_ne_true), if_neg (by rw [hs]; exact Bool.false_ne_true), hs, Bool.not_false, Bool.or_true]
      exact ⟨rfl, HS.out.setCell 0 rfl 1 (.bool true)⟩
end Go.Proofs.YtbogjebipnmckaaDoor
