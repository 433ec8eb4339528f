/-
 Joined of texts of mine, in build order: Kq, Kr, Bp, Fm, Ba, Bb, Bq, Bc, Tx, Ty, Tz, Fl. Each says what it proves at its own head.
-/
import Derived.Laws.EntriesVeiled
import Derived.Lib.ConvBytes
import Derived.Lib.AtoiErrMem
import Derived.Test.YtnohmgpmmhlloaaGreatDoorQb
set_option linter.unusedSimpArgs false
set_option linter.unusedVariables false
set_option maxRecDepth 100000
set_option maxHeartbeats 25600000

namespace Go.Proofs.YtnohmgpmmhlloaaGreatDoor
open Go.RowKit

theorem square_walk (a b c d e : Nat) (w : World) (ha : Red [a, b, c, d, e]) :
  Calls Tryz.prog 127 #[(.agg #[.int .u64 (a : Int), .int .u64 (b : Int), .int .u64 (c : Int), .int .u64 (d : Int), .int .u64 (e : Int)])] w fun r w' => ∃ p q s t u : Nat, ev [p, q, s, t, u] = ev [a, b, c, d, e] * ev [a, b, c, d, e] % Pq ∧ Red [p, q, s, t, u] ∧ r = .returned (.agg #[.int .u64 (p : Int), .int .u64 (q : Int), .int .u64 (s : Int), .int .u64 (t : Int), .int .u64 (u : Int)]) ∧ Below w.heap.size w w' := by
 have HC := hide (fun W => mul_walk a b c d e a b c d e W ha ha)
 have HSE := hide (((St.init w NoB).alloc #[.int .u64 (a : Int), .int .u64 (b : Int), .int .u64 (c : Int), .int .u64 (d : Int), .int .u64 (e : Int)] 61).alloc #[.int .u64 0, .int .u64 0, .int .u64 0, .int .u64 0, .int .u64 0] 61)
 rw [size_alloc1] at HSE
 clear ha
 go_enter Tryz.func127, Tryz.ntmps127
 go_wp2_with (go_at_call 83; refine (HC.out _).mono ?_; rintro r w2 ⟨r0, r1, r2, r3, r4, hev, hred, rfl, hb2⟩; have hS2 := HSE.out.call hb2; have z0 : w2.cell? ⟨w.heap.size + 1, 0, none⟩ = some (.int .u64 0) := hS2.cell 0 rfl 0; have z1 : w2.cell? ⟨w.heap.size + 1, 1, none⟩ = some (.int .u64 0) := hS2.cell 0 rfl 1; have z2 : w2.cell? ⟨w.heap.size + 1, 2, none⟩ = some (.int .u64 0) := hS2.cell 0 rfl 2; have z3 : w2.cell? ⟨w.heap.size + 1, 3, none⟩ = some (.int .u64 0) := hS2.cell 0 rfl 3; have z4 : w2.cell? ⟨w.heap.size + 1, 4, none⟩ = some (.int .u64 0) := hS2.cell 0 rfl 4; have y0 := hS2.free 0 rfl 0; have y1 := hS2.free 0 rfl 1; have y2 := hS2.free 0 rfl 2; have y3 := hS2.free 0 rfl 3; have y4 := hS2.free 0 rfl 4)
 have HS := hide (((((hS2.setCell 0 rfl 0 (.int .u64 (r0 : Int))).setCell 0 rfl 1 (.int .u64 (r1 : Int))).setCell 0 rfl 2 (.int .u64 (r2 : Int))).setCell 0 rfl 3 (.int .u64 (r3 : Int))).setCell 0 rfl 4 (.int .u64 (r4 : Int)))
 refine bodyPost_ret (results_cell_row rfl _ _ (w.heap.size + 1) _ _ _ _ rfl (HS.out.heap 0 rfl) Tryz.underlying61 rfl (by kernel_rfl)) rfl ?_
 exact ⟨r0, r1, r2, r3, r4, hev, hred, rfl, HS.out.below⟩
def pbit (less i : Nat) : Nat := if 5 ≤ i then 1 else (31 - less) / 2 ^ i % 2
def pexp (set less : Nat) : Nat → Nat
 | 0 => 0
 | n + 1 => 2 * pexp set less n + pbit less (set - 1 - n)
theorem pow_mod_two (X n m : Nat) (P : Nat) : X ^ n % P * (X ^ m % P) % P = X ^ (n + m) % P := by
 rw [← Nat.mul_mod, ← Nat.pow_add]
theorem pexp_sq (X n : Nat) : X ^ n % Pq * (X ^ n % Pq) % Pq = X ^ (2 * n) % Pq := by
 rw [pow_mod_two, Nat.two_mul]
def PowRel (w : World) (g set less : Nat) (a b c d e : Nat) (iv : Value) (wr : World) : Prop :=
 ∃ (m p q s t u : Nat), m ≤ set ∧ iv = .int .i64 ((m : Int) - 1) ∧ Red [p, q, s, t, u] ∧ ev [p, q, s, t, u] = ev [a, b, c, d, e] ^ pexp set less (set - m) % Pq ∧
  St w NoB wr [.cells g #[.int .u64 (p : Int), .int .u64 (q : Int), .int .u64 (s : Int), .int .u64 (t : Int), .int .u64 (u : Int)] 61, .cells (g + 1) #[.func (.func 127) #[] #[], .func (.func 83) #[.agg #[.int .u64 (a : Int), .int .u64 (b : Int), .int .u64 (c : Int), .int .u64 (d : Int), .int .u64 (e : Int)]] #[]] 203, .cells (w.heap.size + 1) #[.int .u64 0, .int .u64 0, .int .u64 0, .int .u64 0, .int .u64 0] 61]
theorem pbit_lo (less i : Nat) (h : i < 5) : pbit less i = (31 - less) / 2 ^ i % 2 := by unfold pbit; rw [if_neg (by omega)]
theorem pbit_hi (less i : Nat) (h : 5 ≤ i) : pbit less i = 1 := by unfold pbit; rw [if_pos h]
theorem pexp_step (set less i X y : Nat) (h : i < set) (hy : y = X ^ pexp set less (set - (i + 1)) % Pq) : (pbit less i = 1 → X % Pq = X → X * (y * y % Pq) % Pq = X ^ pexp set less (set - i) % Pq) ∧ (pbit less i = 0 → y * y % Pq = X ^ pexp set less (set - i) % Pq) := by
 have e : set - i = (set - (i + 1)) + 1 := by omega
 rw [e, pexp, show set - 1 - (set - (i + 1)) = i from by omega, hy, pexp_sq]
 refine ⟨fun h1 hX => ?_, fun h0 => by rw [h0]; rfl⟩
 rw [h1, Nat.pow_succ, Nat.mul_comm, ← Nat.mod_mul_mod, Nat.mod_mod, Nat.mod_mul_mod]
theorem power_walk (a b c d e set less : Nat) (w : World) (ha : Red [a, b, c, d, e]) (hs1 : 1 ≤ set) (hs : set ≤ 300) (hl : less ≤ 31) :
  Calls Tryz.prog 122 #[(.agg #[.int .u64 (a : Int), .int .u64 (b : Int), .int .u64 (c : Int), .int .u64 (d : Int), .int .u64 (e : Int)]), .int .i64 (set : Int), .int .u64 (less : Int)] w fun r w' => ∃ p q s t u : Nat, ev [p, q, s, t, u] = ev [a, b, c, d, e] ^ pexp set less set % Pq ∧ Red [p, q, s, t, u] ∧ r = .returned (.agg #[.int .u64 (p : Int), .int .u64 (q : Int), .int .u64 (s : Int), .int .u64 (t : Int), .int .u64 (u : Int)]) ∧ Below w.heap.size w w' := by
 have HA := hide ha
 have H1 := hide (fun W => small_walk 1 W (by omega))
 have HS0 := hide (((St.init w NoB).alloc #[.int .u64 (a : Int), .int .u64 (b : Int), .int .u64 (c : Int), .int .u64 (d : Int), .int .u64 (e : Int)] 61).alloc #[.int .u64 0, .int .u64 0, .int .u64 0, .int .u64 0, .int .u64 0] 61)
 rw [size_alloc1] at HS0
 clear ha
 go_enter Tryz.func122, Tryz.ntmps122
 go_wp2_with (go_at_call 89; refine (H1.out _).mono ?_; rintro r w1 ⟨rfl, hb1⟩; have hS1 := HS0.out.call hb1; have n0 : w1.cell? ⟨w.heap.size, 0, none⟩ = some (.int .u64 (a : Int)) := hS1.cell 1 rfl 0; have n1 : w1.cell? ⟨w.heap.size, 1, none⟩ = some (.int .u64 (b : Int)) := hS1.cell 1 rfl 1; have n2 : w1.cell? ⟨w.heap.size, 2, none⟩ = some (.int .u64 (c : Int)) := hS1.cell 1 rfl 2; have n3 : w1.cell? ⟨w.heap.size, 3, none⟩ = some (.int .u64 (d : Int)) := hS1.cell 1 rfl 3; have n4 : w1.cell? ⟨w.heap.size, 4, none⟩ = some (.int .u64 (e : Int)) := hS1.cell 1 rfl 4; have hgt : w.heap.size < w1.heap.size := Chunk.lt (hS1.sat 1 _ rfl) rfl)
 have hSx := (hS1.alloc #[.int .u64 1, .int .u64 0, .int .u64 0, .int .u64 0, .int .u64 0] 61).alloc #[.func (.func 127) #[] #[], .func (.func 83) #[.agg #[.int .u64 (a : Int), .int .u64 (b : Int), .int .u64 (c : Int), .int .u64 (d : Int), .int .u64 (e : Int)]] #[]] 203
 simp only [size_alloc1] at hSx
 have HSX := hide (hSx.pickL (H' := [.cells w1.heap.size #[.int .u64 ((1 : Nat) : Int), .int .u64 ((0 : Nat) : Int), .int .u64 ((0 : Nat) : Int), .int .u64 ((0 : Nat) : Int), .int .u64 ((0 : Nat) : Int)] 61, .cells (w1.heap.size + 1) #[.func (.func 127) #[] #[], .func (.func 83) #[.agg #[.int .u64 (a : Int), .int .u64 (b : Int), .int .u64 (c : Int), .int .u64 (d : Int), .int .u64 (e : Int)]] #[]] 203, .cells (w.heap.size + 1) #[.int .u64 0, .int .u64 0, .int .u64 0, .int .u64 0, .int .u64 0] 61]) [1, 0, 2] (by decide) rfl)
 clear hSx hS1 n0 n1 n2 n3 n4 hgt hb1 HS0
 generalize w1.heap.size = g at HSX ⊢
 go_loopw [9] (fun i wr => PowRel w g set less a b c d e i wr) (fun i _ => ((intOf i) + 1).toNat)
 case atStart => exact ⟨set, 1, 0, 0, 0, 0, Nat.le_refl _, rfl, red_small 1 (by omega), by rw [ev_small 1 (by omega), Nat.sub_self, pexp, Nat.pow_zero]; exact (Nat.mod_eq_of_lt (by have := Pq_256.2; omega)).symm, HSX.out⟩
 case round =>
  obtain ⟨m, p, q, s, t, u, hm, rfl, hred, hev, hS⟩ := hrel
  have n0 : wr.cell? ⟨g, 0, none⟩ = some (.int .u64 (p : Int)) := hS.cell 0 rfl 0
  have n1 : wr.cell? ⟨g, 1, none⟩ = some (.int .u64 (q : Int)) := hS.cell 0 rfl 1
  have n2 : wr.cell? ⟨g, 2, none⟩ = some (.int .u64 (s : Int)) := hS.cell 0 rfl 2
  have n3 : wr.cell? ⟨g, 3, none⟩ = some (.int .u64 (t : Int)) := hS.cell 0 rfl 3
  have n4 : wr.cell? ⟨g, 4, none⟩ = some (.int .u64 (u : Int)) := hS.cell 0 rfl 4
  have g0 : wr.cell? ⟨g + 1, 0, none⟩ = some (.func (.func 127) #[] #[]) := hS.cell 1 rfl 0
  have f0 := hS.free 0 rfl 0
  have f1 := hS.free 0 rfl 1
  have f2 := hS.free 0 rfl 2
  have f3 := hS.free 0 rfl 3
  have f4 := hS.free 0 rfl 4
  have HS := hide hS
  cases m with
  | zero =>
   have hd : decide ((0 : Int) ≤ ((0 : Nat) : Int) - 1) = false := by decide
   have z0 : wr.cell? ⟨w.heap.size + 1, 0, none⟩ = some (.int .u64 0) := hS.cell 2 rfl 0
   have z1 : wr.cell? ⟨w.heap.size + 1, 1, none⟩ = some (.int .u64 0) := hS.cell 2 rfl 1
   have z2 : wr.cell? ⟨w.heap.size + 1, 2, none⟩ = some (.int .u64 0) := hS.cell 2 rfl 2
   have z3 : wr.cell? ⟨w.heap.size + 1, 3, none⟩ = some (.int .u64 0) := hS.cell 2 rfl 3
   have z4 : wr.cell? ⟨w.heap.size + 1, 4, none⟩ = some (.int .u64 0) := hS.cell 2 rfl 4
   have y0 := hS.free 2 rfl 0
   have y1 := hS.free 2 rfl 1
   have y2 := hS.free 2 rfl 2
   have y3 := hS.free 2 rfl 3
   have y4 := hS.free 2 rfl 4
   have HEV := hide hev
   have HR := hide (((((hS.setCell 2 rfl 0 (.int .u64 (p : Int))).setCell 2 rfl 1 (.int .u64 (q : Int))).setCell 2 rfl 2 (.int .u64 (s : Int))).setCell 2 rfl 3 (.int .u64 (t : Int))).setCell 2 rfl 4 (.int .u64 (u : Int)))
   clear hS hev
   go_wp2_with fail
   refine bodyPost_ret (results_cell_row rfl _ _ (w.heap.size + 1) _ _ _ _ rfl (HR.out.heap 2 rfl) Tryz.underlying61 rfl (by kernel_rfl)) rfl ?_
   exact ⟨p, q, s, t, u, HEV.out, hred, rfl, HR.out.below⟩
  | succ i =>
   have hie : ((i + 1 : Nat) : Int) - 1 = (i : Int) := by omega
   rw [hie]
   have hd : decide ((0 : Int) ≤ (i : Int)) = true := by simp
   obtain ⟨k1, k0⟩ := pexp_step set less i (ev [a, b, c, d, e]) (ev [p, q, s, t, u]) (by omega) hev
   have K1 := hide k1
   have K0 := hide k0
   have HC := hide (fun W => square_walk p q s t u W hred)
   have HI : Hid (i + 1 ≤ set) := hide hm
   clear hie hS hev k1 k0
   go_upto_region 7 with (go_at_call 127; refine (HC.out _).mono ?_; rintro r w2 ⟨r0, r1, r2, r3, r4, hev2, hred2, rfl, hb2⟩; have hS2 := HS.out.call hb2; have x0 : w2.cell? ⟨g, 0, none⟩ = some (.int .u64 (p : Int)) := hS2.cell 0 rfl 0; have x1 : w2.cell? ⟨g, 1, none⟩ = some (.int .u64 (q : Int)) := hS2.cell 0 rfl 1; have x2 : w2.cell? ⟨g, 2, none⟩ = some (.int .u64 (s : Int)) := hS2.cell 0 rfl 2; have x3 : w2.cell? ⟨g, 3, none⟩ = some (.int .u64 (t : Int)) := hS2.cell 0 rfl 3; have x4 : w2.cell? ⟨g, 4, none⟩ = some (.int .u64 (u : Int)) := hS2.cell 0 rfl 4; have v0 := hS2.free 0 rfl 0; have v1 := hS2.free 0 rfl 1; have v2 := hS2.free 0 rfl 2; have v3 := hS2.free 0 rfl 3; have v4 := hS2.free 0 rfl 4; have HEV2 := hide hev2; have HRED2 := hide hred2; have HS2 := hide (((((hS2.setCell 0 rfl 0 (.int .u64 (r0 : Int))).setCell 0 rfl 1 (.int .u64 (r1 : Int))).setCell 0 rfl 2 (.int .u64 (r2 : Int))).setCell 0 rfl 3 (.int .u64 (r3 : Int))).setCell 0 rfl 4 (.int .u64 (r4 : Int))); clear hev2 hred2 hS2 n0 n1 n2 n3 n4 f0 f1 f2 f3 f4)
   clear x0 x1 x2 x3 x4 v0 v1 v2 v3 v4 g0
   generalize (((((w2.setCell ⟨g, 0, none⟩ (.int .u64 (r0 : Int))).setCell ⟨g, 1, none⟩ (.int .u64 (r1 : Int))).setCell ⟨g, 2, none⟩ (.int .u64 (r2 : Int))).setCell ⟨g, 3, none⟩ (.int .u64 (r3 : Int))).setCell ⟨g, 4, none⟩ (.int .u64 (r4 : Int))) = wz at HS2 ⊢
   replace HS2 : Hid (St w NoB wz [.cells g #[.int .u64 (r0 : Int), .int .u64 (r1 : Int), .int .u64 (r2 : Int), .int .u64 (r3 : Int), .int .u64 (r4 : Int)] 61, .cells (g + 1) #[.func (.func 127) #[] #[], .func (.func 83) #[.agg #[.int .u64 (a : Int), .int .u64 (b : Int), .int .u64 (c : Int), .int .u64 (d : Int), .int .u64 (e : Int)]] #[]] 203, .cells (w.heap.size + 1) #[.int .u64 0, .int .u64 0, .int .u64 0, .int .u64 0, .int .u64 0] 61]) := HS2
   have g1 : wz.cell? ⟨g + 1, 1, none⟩ = some (.func (.func 83) #[.agg #[.int .u64 (a : Int), .int .u64 (b : Int), .int .u64 (c : Int), .int .u64 (d : Int), .int .u64 (e : Int)]] #[]) := HS2.out.cell 1 rfl 1
   have n0 : wz.cell? ⟨g, 0, none⟩ = some (.int .u64 (r0 : Int)) := HS2.out.cell 0 rfl 0
   have n1 : wz.cell? ⟨g, 1, none⟩ = some (.int .u64 (r1 : Int)) := HS2.out.cell 0 rfl 1
   have n2 : wz.cell? ⟨g, 2, none⟩ = some (.int .u64 (r2 : Int)) := HS2.out.cell 0 rfl 2
   have n3 : wz.cell? ⟨g, 3, none⟩ = some (.int .u64 (r3 : Int)) := HS2.out.cell 0 rfl 3
   have n4 : wz.cell? ⟨g, 4, none⟩ = some (.int .u64 (r4 : Int)) := HS2.out.cell 0 rfl 4
   have f0 := HS2.out.free 0 rfl 0
   have f1 := HS2.out.free 0 rfl 1
   have f2 := HS2.out.free 0 rfl 2
   have f3 := HS2.out.free 0 rfl 3
   have f4 := HS2.out.free 0 rfl 4
   by_cases h5 : 5 ≤ i
   ·have d5 : decide ((5 : Int) ≤ (i : Int)) = true := by simp; omega
    have HB := hide (pbit_hi less i h5)
    clear K0
    go_wp2_with (go_at_call 83; refine (mul_walk a b c d e r0 r1 r2 r3 r4 _ HA.out HRED2.out).mono ?_; rintro r w3 ⟨s0, s1, s2, s3, s4, hev3, hred3, rfl, hb3⟩; have hS3 := HS2.out.call hb3; have y0 : w3.cell? ⟨g, 0, none⟩ = some (.int .u64 (r0 : Int)) := hS3.cell 0 rfl 0; have y1 : w3.cell? ⟨g, 1, none⟩ = some (.int .u64 (r1 : Int)) := hS3.cell 0 rfl 1; have y2 : w3.cell? ⟨g, 2, none⟩ = some (.int .u64 (r2 : Int)) := hS3.cell 0 rfl 2; have y3 : w3.cell? ⟨g, 3, none⟩ = some (.int .u64 (r3 : Int)) := hS3.cell 0 rfl 3; have y4 : w3.cell? ⟨g, 4, none⟩ = some (.int .u64 (r4 : Int)) := hS3.cell 0 rfl 4; have u0 := hS3.free 0 rfl 0; have u1 := hS3.free 0 rfl 1; have u2 := hS3.free 0 rfl 2; have u3 := hS3.free 0 rfl 3; have u4 := hS3.free 0 rfl 4; have HEV3 := hide hev3; have HS3 := hide (((((hS3.setCell 0 rfl 0 (.int .u64 (s0 : Int))).setCell 0 rfl 1 (.int .u64 (s1 : Int))).setCell 0 rfl 2 (.int .u64 (s2 : Int))).setCell 0 rfl 3 (.int .u64 (s3 : Int))).setCell 0 rfl 4 (.int .u64 (s4 : Int))); clear hev3 n0 n1 n2 n3 n4 f0 f1 f2 f3 f4 hb2 g1)
    go_roundw
    case rel =>
     refine ⟨i, s0, s1, s2, s3, s4, by omega, rfl, hred3, ?_, HS3.out⟩
     have := HEV3.out
     rw [HEV2.out] at this
     rw [this]
     exact K1.out HB.out (Nat.mod_mod _ _)
    case measure => (simp [intOf]) <;> omega
   ·have d5 : decide ((5 : Int) ≤ (i : Int)) = false := by simp; omega
    have hb : bits .and .u64 (((31 - less) / 2 ^ i : Nat) : Int) 1 = ((pbit less i : Nat) : Int) := by
     rw [pbit_lo less i (by omega)]
     exact odd_bit _ (Nat.lt_of_le_of_lt (Nat.div_le_self _ _) (by omega))
    have hcst : (((31 - less) / 2 ^ i : Nat) : Int) = (31 - (less : Int)) / 2 ^ i := by
     rw [Int.natCast_ediv, Int.natCast_sub hl, Int.natCast_pow]
     rfl
    rw [hcst] at hb
    clear hcst
    have h2i : pbit less i = 0 ∨ pbit less i = 1 := by rw [pbit_lo less i (by omega)]; omega
    rcases h2i with h0 | h0
    ·have HB := hide h0
     rw [h0] at hb
     replace hb : bits .and .u64 ((31 - (less : Int)) / 2 ^ i) 1 = 0 := hb
     clear h0
     go_wp2_with fail
     go_roundw
     case rel => exact ⟨i, r0, r1, r2, r3, r4, by omega, rfl, HRED2.out, by rw [HEV2.out]; exact K0.out HB.out, HS2.out⟩
     case measure => (simp [intOf]) <;> omega
    ·have HB := hide h0
     rw [h0] at hb
     replace hb : bits .and .u64 ((31 - (less : Int)) / 2 ^ i) 1 = 1 := hb
     clear h0 K0
     go_wp2_with (go_at_call 83; refine (mul_walk a b c d e r0 r1 r2 r3 r4 _ HA.out HRED2.out).mono ?_; rintro r w3 ⟨s0, s1, s2, s3, s4, hev3, hred3, rfl, hb3⟩; have hS3 := HS2.out.call hb3; have y0 : w3.cell? ⟨g, 0, none⟩ = some (.int .u64 (r0 : Int)) := hS3.cell 0 rfl 0; have y1 : w3.cell? ⟨g, 1, none⟩ = some (.int .u64 (r1 : Int)) := hS3.cell 0 rfl 1; have y2 : w3.cell? ⟨g, 2, none⟩ = some (.int .u64 (r2 : Int)) := hS3.cell 0 rfl 2; have y3 : w3.cell? ⟨g, 3, none⟩ = some (.int .u64 (r3 : Int)) := hS3.cell 0 rfl 3; have y4 : w3.cell? ⟨g, 4, none⟩ = some (.int .u64 (r4 : Int)) := hS3.cell 0 rfl 4; have u0 := hS3.free 0 rfl 0; have u1 := hS3.free 0 rfl 1; have u2 := hS3.free 0 rfl 2; have u3 := hS3.free 0 rfl 3; have u4 := hS3.free 0 rfl 4; have HEV3 := hide hev3; have HS3 := hide (((((hS3.setCell 0 rfl 0 (.int .u64 (s0 : Int))).setCell 0 rfl 1 (.int .u64 (s1 : Int))).setCell 0 rfl 2 (.int .u64 (s2 : Int))).setCell 0 rfl 3 (.int .u64 (s3 : Int))).setCell 0 rfl 4 (.int .u64 (s4 : Int))); clear hev3 n0 n1 n2 n3 n4 f0 f1 f2 f3 f4 hb2 g1)
     go_roundw
     case rel =>
      refine ⟨i, s0, s1, s2, s3, s4, by omega, rfl, hred3, ?_, HS3.out⟩
      have := HEV3.out
      rw [HEV2.out] at this
      rw [this]
      exact K1.out HB.out (Nat.mod_mod _ _)
     case measure => (simp [intOf]) <;> omega
end Go.Proofs.YtnohmgpmmhlloaaGreatDoor

namespace Go.Proofs.YtnohmgpmmhlloaaGreatDoor
open Go.RowKit

instance : NeZero Pq := ⟨by unfold Pq; decide⟩
abbrev FK : Type := Fin Pq
theorem pq_pos : 0 < Pq := by have := Pq_256.2; omega
@[irreducible] def finv (x : FK) : FK := ⟨x.val ^ (Pq - 2) % Pq, Nat.mod_lt _ pq_pos⟩
def fbytes (l : List UInt8) : FK := ⟨bval (fullL l) % Pq, Nat.mod_lt _ pq_pos⟩
theorem finv_val (x : FK) : (finv x).val = x.val ^ (Pq - 2) % Pq := by unfold finv; rfl
theorem fzero_val : (0 : FK).val = 0 := Nat.zero_mod _
theorem fadd_val (x y : FK) : (x + y).val = (x.val + y.val) % Pq := Fin.val_add x y
theorem fmul_val (x y : FK) : (x * y).val = x.val * y.val % Pq := Fin.val_mul x y
theorem fsub_val (x y : FK) : (x - y).val = (x.val + (Pq - y.val)) % Pq := by rw [Fin.sub_def]; show (Pq - y.val + x.val) % Pq = _; rw [Nat.add_comm]
theorem fneg_val (x : FK) : (-x).val = (Pq - x.val) % Pq := rfl
theorem inv_exp : pexp 255 20 255 = Pq - 2 := by unfold Pq; decide +kernel
theorem inv_walk (a b c d e : Nat) (w : World) (ha : Red [a, b, c, d, e]) :
  Calls Tryz.prog 82 #[(.agg #[.int .u64 (a : Int), .int .u64 (b : Int), .int .u64 (c : Int), .int .u64 (d : Int), .int .u64 (e : Int)])] w fun r w' => ∃ p q s t u : Nat, ev [p, q, s, t, u] = ev [a, b, c, d, e] ^ (Pq - 2) % Pq ∧ Red [p, q, s, t, u] ∧ r = .returned (.agg #[.int .u64 (p : Int), .int .u64 (q : Int), .int .u64 (s : Int), .int .u64 (t : Int), .int .u64 (u : Int)]) ∧ Below w.heap.size w w' := by
 have HC := hide (fun W => power_walk a b c d e 255 20 W ha (by decide) (by decide) (by decide))
 rw [inv_exp] at HC
 have HSE := hide (((St.init w NoB).alloc #[.int .u64 (a : Int), .int .u64 (b : Int), .int .u64 (c : Int), .int .u64 (d : Int), .int .u64 (e : Int)] 61).alloc #[.int .u64 0, .int .u64 0, .int .u64 0, .int .u64 0, .int .u64 0] 61)
 rw [size_alloc1] at HSE
 clear ha
 go_enter Tryz.func82, Tryz.ntmps82
 go_wp2_with (go_at_call 122; refine (HC.out _).mono ?_; rintro r w2 ⟨r0, r1, r2, r3, r4, hev, hred, rfl, hb2⟩; have hS2 := HSE.out.call hb2; have z0 : w2.cell? ⟨w.heap.size + 1, 0, none⟩ = some (.int .u64 0) := hS2.cell 0 rfl 0; have z1 : w2.cell? ⟨w.heap.size + 1, 1, none⟩ = some (.int .u64 0) := hS2.cell 0 rfl 1; have z2 : w2.cell? ⟨w.heap.size + 1, 2, none⟩ = some (.int .u64 0) := hS2.cell 0 rfl 2; have z3 : w2.cell? ⟨w.heap.size + 1, 3, none⟩ = some (.int .u64 0) := hS2.cell 0 rfl 3; have z4 : w2.cell? ⟨w.heap.size + 1, 4, none⟩ = some (.int .u64 0) := hS2.cell 0 rfl 4; have y0 := hS2.free 0 rfl 0; have y1 := hS2.free 0 rfl 1; have y2 := hS2.free 0 rfl 2; have y3 := hS2.free 0 rfl 3; have y4 := hS2.free 0 rfl 4; have HEV := hide hev; clear hev)
 have HS := hide (((((hS2.setCell 0 rfl 0 (.int .u64 (r0 : Int))).setCell 0 rfl 1 (.int .u64 (r1 : Int))).setCell 0 rfl 2 (.int .u64 (r2 : Int))).setCell 0 rfl 3 (.int .u64 (r3 : Int))).setCell 0 rfl 4 (.int .u64 (r4 : Int)))
 refine bodyPost_ret (results_cell_row rfl _ _ (w.heap.size + 1) _ _ _ _ rfl (HS.out.heap 0 rfl) Tryz.underlying61 rfl (by kernel_rfl)) rfl ?_
 exact ⟨r0, r1, r2, r3, r4, HEV.out, hred, rfl, HS.out.below⟩
theorem addE {a b c d e a' b' c' d' e' : Nat} {X Y : FK} {w : World} (h : ev [a, b, c, d, e] = X.val) (r : Red [a, b, c, d, e]) (h' : ev [a', b', c', d', e'] = Y.val) (r' : Red [a', b', c', d', e']) :
  Calls Tryz.prog 90 #[(.agg #[.int .u64 (a : Int), .int .u64 (b : Int), .int .u64 (c : Int), .int .u64 (d : Int), .int .u64 (e : Int)]), (.agg #[.int .u64 (a' : Int), .int .u64 (b' : Int), .int .u64 (c' : Int), .int .u64 (d' : Int), .int .u64 (e' : Int)])] w fun r w' => ∃ p q s t u : Nat, ev [p, q, s, t, u] = (X + Y).val ∧ Red [p, q, s, t, u] ∧ r = .returned (.agg #[.int .u64 (p : Int), .int .u64 (q : Int), .int .u64 (s : Int), .int .u64 (t : Int), .int .u64 (u : Int)]) ∧ Below w.heap.size w w' := by
 rw [fadd_val, ← h, ← h']
 exact add_walk _ _ _ _ _ _ _ _ _ _ w r r'
theorem subE {a b c d e a' b' c' d' e' : Nat} {X Y : FK} {w : World} (h : ev [a, b, c, d, e] = X.val) (r : Red [a, b, c, d, e]) (h' : ev [a', b', c', d', e'] = Y.val) (r' : Red [a', b', c', d', e']) :
  Calls Tryz.prog 88 #[(.agg #[.int .u64 (a : Int), .int .u64 (b : Int), .int .u64 (c : Int), .int .u64 (d : Int), .int .u64 (e : Int)]), (.agg #[.int .u64 (a' : Int), .int .u64 (b' : Int), .int .u64 (c' : Int), .int .u64 (d' : Int), .int .u64 (e' : Int)])] w fun r w' => ∃ p q s t u : Nat, ev [p, q, s, t, u] = (X - Y).val ∧ Red [p, q, s, t, u] ∧ r = .returned (.agg #[.int .u64 (p : Int), .int .u64 (q : Int), .int .u64 (s : Int), .int .u64 (t : Int), .int .u64 (u : Int)]) ∧ Below w.heap.size w w' := by
 rw [fsub_val, ← h, ← h']
 exact sub_walk _ _ _ _ _ _ _ _ _ _ w r r'
theorem mulE {a b c d e a' b' c' d' e' : Nat} {X Y : FK} {w : World} (h : ev [a, b, c, d, e] = X.val) (r : Red [a, b, c, d, e]) (h' : ev [a', b', c', d', e'] = Y.val) (r' : Red [a', b', c', d', e']) :
  Calls Tryz.prog 83 #[(.agg #[.int .u64 (a : Int), .int .u64 (b : Int), .int .u64 (c : Int), .int .u64 (d : Int), .int .u64 (e : Int)]), (.agg #[.int .u64 (a' : Int), .int .u64 (b' : Int), .int .u64 (c' : Int), .int .u64 (d' : Int), .int .u64 (e' : Int)])] w fun r w' => ∃ p q s t u : Nat, ev [p, q, s, t, u] = (X * Y).val ∧ Red [p, q, s, t, u] ∧ r = .returned (.agg #[.int .u64 (p : Int), .int .u64 (q : Int), .int .u64 (s : Int), .int .u64 (t : Int), .int .u64 (u : Int)]) ∧ Below w.heap.size w w' := by
 rw [fmul_val, ← h, ← h']
 exact mul_walk _ _ _ _ _ _ _ _ _ _ w r r'
theorem invE {a b c d e : Nat} {X : FK} {w : World} (h : ev [a, b, c, d, e] = X.val) (r : Red [a, b, c, d, e]) :
  Calls Tryz.prog 82 #[(.agg #[.int .u64 (a : Int), .int .u64 (b : Int), .int .u64 (c : Int), .int .u64 (d : Int), .int .u64 (e : Int)])] w fun r w' => ∃ p q s t u : Nat, ev [p, q, s, t, u] = (finv X).val ∧ Red [p, q, s, t, u] ∧ r = .returned (.agg #[.int .u64 (p : Int), .int .u64 (q : Int), .int .u64 (s : Int), .int .u64 (t : Int), .int .u64 (u : Int)]) ∧ Below w.heap.size w w' := by
 rw [finv_val, ← h]
 exact inv_walk _ _ _ _ _ w r
theorem zeroE {a b c d e : Nat} {X : FK} {w : World} (h : ev [a, b, c, d, e] = X.val) (r : Red [a, b, c, d, e]) :
  Calls Tryz.prog 121 #[(.agg #[.int .u64 (a : Int), .int .u64 (b : Int), .int .u64 (c : Int), .int .u64 (d : Int), .int .u64 (e : Int)])] w fun r w' => r = .returned (.bool (decide (X.val = 0))) ∧ Below w.heap.size w w' := by
 rw [← h]
 exact iszero_walk _ _ _ _ _ w (red_low r)
theorem oddE {a b c d e : Nat} {X : FK} {w : World} (h : ev [a, b, c, d, e] = X.val) (r : Red [a, b, c, d, e]) :
  Calls Tryz.prog 85 #[(.agg #[.int .u64 (a : Int), .int .u64 (b : Int), .int .u64 (c : Int), .int .u64 (d : Int), .int .u64 (e : Int)])] w fun r w' => r = .returned (.bool (decide (X.val % 2 = 1))) ∧ Below w.heap.size w w' := by
 rw [← h]
 exact isodd_walk _ _ _ _ _ w (red_low r)
theorem smallE (n : Nat) (w : World) (h : n < 4294967296) :
  Calls Tryz.prog 89 #[.int .u32 (n : Int)] w fun r w' => ∃ p q s t u : Nat, ev [p, q, s, t, u] = n ∧ Red [p, q, s, t, u] ∧ r = .returned (.agg #[.int .u64 (p : Int), .int .u64 (q : Int), .int .u64 (s : Int), .int .u64 (t : Int), .int .u64 (u : Int)]) ∧ Below w.heap.size w w' :=
 (small_walk n w h).mono fun r w' hr => ⟨n, 0, 0, 0, 0, ev_small n h, red_small n h, hr.1, hr.2⟩
theorem fromE {A : Option Addr} {n c : Nat} {l : List UInt8} {w : World} (hl : l.length = n) (hn : n ≤ 1000) (hr : Rd w (.slice A n c) 1 n (bvs l)) :
  Calls Tryz.prog 86 #[.slice A n c] w fun r w' => ∃ p q s t u : Nat, ev [p, q, s, t, u] = (fbytes l).val ∧ Red [p, q, s, t, u] ∧ r = .returned (.agg #[.int .u64 (p : Int), .int .u64 (q : Int), .int .u64 (s : Int), .int .u64 (t : Int), .int .u64 (u : Int)]) ∧ Below w.heap.size w w' := from_walk A n c l w hl hn hr
end Go.Proofs.YtnohmgpmmhlloaaGreatDoor

namespace Go.Proofs.YtnohmgpmmhlloaaGreatDoor
open Go.RowKit
set_option linter.unusedSimpArgs false

def hxN (d : Nat) : Nat := if d < 10 then 48 + d else 87 + d
theorem lower_any (c : Nat) (h : 97 ≤ c) (h' : c ≤ 102) (w : World) : Calls Tryz.prog 171 #[.int .u8 (c : Int)] w fun e w' => e = .returned (.int .u8 (c : Int)) ∧ w = w' := by
 have hb : bits .or .u8 (c : Int) 32 = (c : Int) := by
  have : c = 97 ∨ c = 98 ∨ c = 99 ∨ c = 100 ∨ c = 101 ∨ c = 102 := by omega
  rcases this with rfl | rfl | rfl | rfl | rfl | rfl <;> decide
 go_enter Tryz.func171, Tryz.ntmps171
 go_wp2_with fail
 go_ret
 exact ⟨rfl, rfl⟩
def twoB (c1 c2 : Nat) : ByteArray := ⟨#[UInt8.ofNat c1, UInt8.ofNat c2]⟩
theorem twoB_cell (w : World) (e : TypeId) (c1 c2 : Nat) (h1 : c1 < 256) (h2 : c2 < 256) :
  (Lib.bytesWorld w e (twoB c1 c2)).cell? ⟨w.heap.size, 0, none⟩ = some (.int .u8 (c1 : Int)) ∧ (Lib.bytesWorld w e (twoB c1 c2)).cell? ⟨w.heap.size, 1, none⟩ = some (.int .u8 (c2 : Int)) := by
 have e0 := Lib.bytesWorld_cell w e (twoB c1 c2) 0 (by show 0 < 2; decide)
 have e1 := Lib.bytesWorld_cell w e (twoB c1 c2) 1 (by show 1 < 2; decide)
 refine ⟨e0.trans ?_, e1.trans ?_⟩
 ·show some (Value.int .u8 ((UInt8.ofNat c1).toNat : Int)) = _
  rw [UInt8.toNat_ofNat', Nat.mod_eq_of_lt (by omega)]
 ·show some (Value.int .u8 ((UInt8.ofNat c2).toNat : Int)) = _
  rw [UInt8.toNat_ofNat', Nat.mod_eq_of_lt (by omega)]
theorem hx_lt {d : Nat} (h : d < 16) : hxN d < 103 := by unfold hxN; split <;> omega
theorem parseI_hex (d1 d2 : Nat) (h1 : d1 < 16) (h2 : d2 < 16) (w : World) :
  Calls Tryz.prog 160 #[.string (twoB (hxN d1) (hxN d2)), .int .i64 16, .int .i64 8] w fun e w' => e = .returned (.tuple #[.int .u64 ((16 * d1 + d2 : Nat) : Int), .nilIface]) ∧ Below w.heap.size w w' := by
 have hcv := Lib.run_convert_string_bytes (P := Tryz.prog) w 9 22 5 (twoB (hxN d1) (hxN d2)) Tryz.underlying9 Tryz.underlying22 Tryz.underlying5
 rw [show (twoB (hxN d1) (hxN d2)).size = 2 from rfl] at hcv
 have hne : (twoB (hxN d1) (hxN d2)).toList.isEmpty = false := by
  rw [show twoB (hxN d1) (hxN d2) = strOf [UInt8.ofNat (hxN d1), UInt8.ofNat (hxN d2)] from by rw [strOf_eq]; rfl, strOf_toList]
  rfl
 obtain ⟨g0, g1⟩ := twoB_cell w 5 (hxN d1) (hxN d2) (by have := hx_lt h1; omega) (by have := hx_lt h2; omega)
 have hB := Lib.bytesWorld_below w 5 (twoB (hxN d1) (hxN d2))
 have HC := hide (show ∀ (c : Nat), 97 ≤ c → c ≤ 102 → ∀ W, Calls Tryz.prog 171 #[.int .u8 (c : Int)] W fun e w' => e = .returned (.int .u8 (c : Int)) ∧ W = w' from fun c a b W => lower_any c a b W)
 generalize hs : twoB (hxN d1) (hxN d2) = s at *
 generalize grownCap w 2 0 5 = cap at *
 have e1 : hxN d1 = if d1 < 10 then 48 + d1 else 87 + d1 := rfl
 have e2 : hxN d2 = if d2 < 10 then 48 + d2 else 87 + d2 := rfl
 obtain ⟨c1, hc1⟩ : ∃ c : Int, c = ((hxN d1 : Nat) : Int) := ⟨_, rfl⟩
 obtain ⟨c2, hc2⟩ : ∃ c : Int, c = ((hxN d2 : Nat) : Int) := ⟨_, rfl⟩
 obtain ⟨b1, hb1⟩ : ∃ b : Int, b = (d1 : Int) := ⟨_, rfl⟩
 obtain ⟨b2, hb2⟩ : ∃ b : Int, b = (d2 : Int) := ⟨_, rfl⟩
 rw [← hc1] at g0
 rw [← hc2] at g1
 have HE1 : Hid ((b1 < 10 ∧ c1 = 48 + b1) ∨ (10 ≤ b1 ∧ c1 = 87 + b1)) := hide (by rw [hc1, hb1, e1]; split <;> omega)
 have HE2 : Hid ((b2 < 10 ∧ c2 = 48 + b2) ∨ (10 ≤ b2 ∧ c2 = 87 + b2)) := hide (by rw [hc2, hb2, e2]; split <;> omega)
 have HB1 : Hid (0 ≤ b1 ∧ b1 < 16) := hide (by omega)
 have HB2 : Hid (0 ≤ b2 ∧ b2 < 16) := hide (by omega)
 have eres : ((16 * d1 + d2 : Nat) : Int) = 16 * b1 + b2 := by omega
 rw [eres]
 have HC : Hid (∀ (c : Int), 97 ≤ c → c ≤ 102 → ∀ W, Calls Tryz.prog 171 #[.int .u8 c] W fun e w' => e = .returned (.int .u8 c) ∧ W = w') := hide (fun c a b W => by
  obtain ⟨m, rfl⟩ : ∃ m : Nat, c = (m : Int) := ⟨c.toNat, by omega⟩
  exact HC.out m (by omega) (by omega) W)
 clear hs hc1 hc2 hb1 hb2 eres e1 e2 h1 h2
 go_enter Tryz.func160, Tryz.ntmps160
 go_wp2_with fail
 generalize Lib.bytesWorld w 5 s = wB at g0 g1 hB ⊢
 clear hcv hne
 go_loopw [12, 13, 101] (fun u n i wr => u = .bool false ∧ ((i = .int .i64 0 ∧ n = .int .u64 0) ∨ (i = .int .i64 1 ∧ n = .int .u64 b1) ∨ (i = .int .i64 2 ∧ n = .int .u64 (16 * b1 + b2))) ∧ wr = wB) (fun _ _ i _ => (2 - intOf i).toNat)
 case atStart => exact ⟨rfl, .inl ⟨rfl, rfl⟩, rfl⟩
 case round =>
  obtain ⟨rfl, hcase, rfl⟩ := hrel
  rcases hcase with ⟨rfl, rfl⟩ | ⟨rfl, rfl⟩ | ⟨rfl, rfl⟩
  ·rcases HE1.out with ⟨k1, rfl⟩ | ⟨k1, rfl⟩
   ·obtain ⟨l1, l2⟩ := HB1.out
    obtain ⟨l3, l4⟩ := HB2.out
    have p3 : ((48 + b1) == 95) = false := by simp; omega
    have p4 : decide ((48 + b1) = 95) = false := by simp; omega
    have p5 : decide ((16 : Int) ≤ b1) = false := by simp; omega
    have p7 : decide (b1 < 0) = false := by simp; omega
    have p8 : decide ((255 : Int) < b1) = false := by simp; omega
    have p1 : decide ((48 : Int) ≤ 48 + b1) = true := by simp; omega
    have p2 : decide (48 + b1 ≤ 57) = true := by simp; omega
    have q1 : 48 + b1 - 48 = b1 := by omega
    go_wp2_with fail
    go_roundw
    case rel => exact ⟨rfl, .inr (.inl ⟨rfl, rfl⟩), trivial⟩
    case measure => (simp [intOf])
   ·obtain ⟨l1, l2⟩ := HB1.out
    obtain ⟨l3, l4⟩ := HB2.out
    have p3 : ((87 + b1) == 95) = false := by simp; omega
    have p4 : decide ((87 + b1) = 95) = false := by simp; omega
    have p5 : decide ((16 : Int) ≤ b1) = false := by simp; omega
    have p7 : decide (b1 < 0) = false := by simp; omega
    have p8 : decide ((255 : Int) < b1) = false := by simp; omega
    have p1 : decide ((48 : Int) ≤ 87 + b1) = true := by simp; omega
    have p2 : decide (87 + b1 ≤ 57) = false := by simp; omega
    have p21 : decide ((97 : Int) ≤ 87 + b1) = true := by simp; omega
    have p22 : decide (87 + b1 ≤ 122) = true := by simp; omega
    have q1 : 87 + b1 - 97 = b1 - 10 := by omega
    have q2 : b1 - 10 + 10 = b1 := by omega
    have HL := hide (fun W => HC.out (87 + b1) (by omega) (by omega) W)
    go_wp2_with (go_at_call 171; (with_reducible refine (HL.out _).mono ?_); rintro e w' ⟨rfl, rfl⟩)
    go_roundw
    case rel => exact ⟨rfl, .inr (.inl ⟨rfl, rfl⟩), trivial⟩
    case measure => (simp [intOf])
  ·rcases HE2.out with ⟨k1, rfl⟩ | ⟨k1, rfl⟩
   ·obtain ⟨l1, l2⟩ := HB1.out
    obtain ⟨l3, l4⟩ := HB2.out
    have p3 : ((48 + b2) == 95) = false := by simp; omega
    have p4 : decide ((48 + b2) = 95) = false := by simp; omega
    have p5 : decide ((16 : Int) ≤ b2) = false := by simp; omega
    have p6 : decide ((1152921504606846976 : Int) ≤ b1) = false := by simp; omega
    have p7 : decide (b1 * 16 + b2 < b1 * 16) = false := by simp; omega
    have p8 : decide ((255 : Int) < b1 * 16 + b2) = false := by simp; omega
    have p1 : decide ((48 : Int) ≤ 48 + b2) = true := by simp; omega
    have p2 : decide (48 + b2 ≤ 57) = true := by simp; omega
    have q1 : 48 + b2 - 48 = b2 := by omega
    go_wp2_with fail
    go_roundw
    case rel => exact ⟨rfl, .inr (.inr ⟨rfl, by rw [Int.mul_comm 16 b1]⟩), trivial⟩
    case measure => (simp [intOf])
   ·obtain ⟨l1, l2⟩ := HB1.out
    obtain ⟨l3, l4⟩ := HB2.out
    have p3 : ((87 + b2) == 95) = false := by simp; omega
    have p4 : decide ((87 + b2) = 95) = false := by simp; omega
    have p5 : decide ((16 : Int) ≤ b2) = false := by simp; omega
    have p6 : decide ((1152921504606846976 : Int) ≤ b1) = false := by simp; omega
    have p7 : decide (b1 * 16 + b2 < b1 * 16) = false := by simp; omega
    have p8 : decide ((255 : Int) < b1 * 16 + b2) = false := by simp; omega
    have p1 : decide ((48 : Int) ≤ 87 + b2) = true := by simp; omega
    have p2 : decide (87 + b2 ≤ 57) = false := by simp; omega
    have p21 : decide ((97 : Int) ≤ 87 + b2) = true := by simp; omega
    have p22 : decide (87 + b2 ≤ 122) = true := by simp; omega
    have q1 : 87 + b2 - 97 = b2 - 10 := by omega
    have q2 : b2 - 10 + 10 = b2 := by omega
    have HL := hide (fun W => HC.out (87 + b2) (by omega) (by omega) W)
    go_wp2_with (go_at_call 171; (with_reducible refine (HL.out _).mono ?_); rintro e w' ⟨rfl, rfl⟩)
    go_roundw
    case rel => exact ⟨rfl, .inr (.inr ⟨rfl, by rw [Int.mul_comm 16 b1]⟩), trivial⟩
    case measure => (simp [intOf])
  ·go_wp2_with fail
   go_ret2
   exact ⟨rfl, hB⟩
end Go.Proofs.YtnohmgpmmhlloaaGreatDoor

namespace Go.Proofs.YtnohmgpmmhlloaaGreatDoor
open Go.RowKit
namespace Fm
def Pr (p : Nat) : Prop := 2 ≤ p ∧ ∀ d, d ∣ p → d = 1 ∨ d = p
theorem pr_gcd {p a : Nat} (h : Pr p) (ha : ¬ p ∣ a) : Nat.gcd p a = 1 := by
 rcases h.2 _ (Nat.gcd_dvd_left p a) with e | e
 ·exact e
 ·exact absurd (e ▸ Nat.gcd_dvd_right p a) ha
theorem pr_mul {p a b : Nat} (h : Pr p) (hd : p ∣ a * b) : p ∣ a ∨ p ∣ b := by
 by_cases ha : p ∣ a
 ·exact .inl ha
 ·exact .inr (Nat.Coprime.dvd_of_dvd_mul_left (pr_gcd h ha) hd)
def bin : Nat → Nat → Nat
 | _, 0 => 1
 | 0, _ + 1 => 0
 | n + 1, k + 1 => bin n k + bin n (k + 1)
theorem bin_gt : ∀ (n k : Nat), n < k → bin n k = 0
 | _, 0, h => by omega
 | 0, k + 1, _ => rfl
 | n + 1, k + 1, h => by rw [bin, bin_gt n k (by omega), bin_gt n (k + 1) (by omega)]
theorem bin_self : ∀ n, bin n n = 1
 | 0 => rfl
 | n + 1 => by rw [bin, bin_self n, bin_gt n (n + 1) (by omega)]
theorem bin_mul : ∀ (n k : Nat), (k + 1) * bin (n + 1) (k + 1) = (n + 1) * bin n k
 | 0, 0 => rfl
 | 0, k + 1 => by simp [bin]
 | n + 1, 0 => by
  have := bin_mul n 0
  have e : bin (n + 1 + 1) (0 + 1) = bin (n + 1) 0 + bin (n + 1) (0 + 1) := rfl
  have e2 : bin (n + 1) 0 = 1 := by cases n <;> rfl
  have e3 : bin n 0 = 1 := by cases n <;> rfl
  rw [e, e2]
  rw [e3] at this
  omega
 | n + 1, k + 1 => by
  have h1 := bin_mul n k
  have h2 := bin_mul n (k + 1)
  have e : bin (n + 1 + 1) (k + 1 + 1) = bin (n + 1) (k + 1) + bin (n + 1) (k + 1 + 1) := rfl
  have e2 : bin (n + 1) (k + 1) = bin n k + bin n (k + 1) := rfl
  have e3 : (k + 1 + 1) * bin (n + 1) (k + 1) = (k + 1) * bin (n + 1) (k + 1) + bin (n + 1) (k + 1) := Nat.succ_mul _ _
  have e4 : (n + 1 + 1) * bin (n + 1) (k + 1) = (n + 1) * bin (n + 1) (k + 1) + bin (n + 1) (k + 1) := Nat.succ_mul _ _
  have e5 : (n + 1) * bin (n + 1) (k + 1) = (n + 1) * bin n k + (n + 1) * bin n (k + 1) := by rw [e2, Nat.mul_add]
  rw [e, Nat.mul_add, h2, e3, e4, h1]
  omega
theorem bin_dvd {p k : Nat} (h : Pr p) (h0 : 0 < k) (hk : k < p) : p ∣ bin p k := by
 obtain ⟨k, rfl⟩ : ∃ j, k = j + 1 := ⟨k - 1, by omega⟩
 obtain ⟨n, rfl⟩ : ∃ j, p = j + 1 := ⟨p - 1, by omega⟩
 have e := bin_mul n k
 rcases pr_mul h (show n + 1 ∣ (k + 1) * bin (n + 1) (k + 1) from ⟨_, e⟩) with hd | hd
 ·exact absurd (Nat.le_of_dvd (by omega) hd) (by omega)
 ·exact hd
def sm (f : Nat → Nat) : Nat → Nat
 | 0 => 0
 | n + 1 => sm f n + f n
theorem sm_add (f g : Nat → Nat) : ∀ n, sm (fun i => f i + g i) n = sm f n + sm g n
 | 0 => rfl
 | n + 1 => by simp only [sm, sm_add f g n]; omega
theorem sm_mul (c : Nat) (f : Nat → Nat) : ∀ n, sm (fun i => c * f i) n = c * sm f n
 | 0 => rfl
 | n + 1 => by simp only [sm, sm_mul c f n, Nat.mul_add]
theorem sm_shift (f : Nat → Nat) : ∀ n, sm f (n + 1) = f 0 + sm (fun i => f (i + 1)) n
 | 0 => by simp [sm]
 | n + 1 => by rw [sm, sm_shift f n, sm]; omega
theorem sm_congr {f g : Nat → Nat} : ∀ n, (∀ i, i < n → f i = g i) → sm f n = sm g n
 | 0, _ => rfl
 | n + 1, h => by rw [sm, sm, sm_congr n (fun i hi => h i (by omega)), h n (by omega)]
theorem sm_dvd {f : Nat → Nat} {p : Nat} : ∀ n, (∀ i, i < n → p ∣ f i) → p ∣ sm f n
 | 0, _ => ⟨0, rfl⟩
 | n + 1, h => Nat.dvd_add (sm_dvd n (fun i hi => h i (by omega))) (h n (by omega))
theorem binom (x : Nat) : ∀ n, (x + 1) ^ n = sm (fun i => bin n i * x ^ i) (n + 1)
 | 0 => by simp [sm, bin]
 | n + 1 => by
  rw [Nat.pow_succ, binom x n, Nat.mul_add, Nat.mul_one, Nat.mul_comm _ x, ← sm_mul, sm_shift (fun i => bin (n + 1) i * x ^ i) (n + 1)]
  have e1 : sm (fun i => bin (n + 1) (i + 1) * x ^ (i + 1)) (n + 1) = sm (fun i => x * (bin n i * x ^ i)) (n + 1) + sm (fun i => bin n (i + 1) * x ^ (i + 1)) (n + 1) := by
   rw [← sm_add]
   refine sm_congr _ fun i _ => ?_
   rw [bin, Nat.pow_succ, Nat.add_mul]
   congr 1
   rw [← Nat.mul_assoc, Nat.mul_comm]
  have e2 : sm (fun i => bin n (i + 1) * x ^ (i + 1)) (n + 1) = sm (fun i => bin n (i + 1) * x ^ (i + 1)) n := by
   rw [sm, bin_gt n (n + 1) (by omega)]
   omega
  have e3 := sm_shift (fun i => bin n i * x ^ i) n
  have e4 : bin (n + 1) 0 * x ^ 0 = bin n 0 * x ^ 0 := by cases n <;> rfl
  rw [e1, e2, e3, e4]
  omega
theorem fermat {p : Nat} (h : Pr p) : ∀ x, x ^ p % p = x % p
 | 0 => by rw [Nat.zero_pow (by have := h.1; omega)]
 | x + 1 => by
  have ih := fermat h x
  obtain ⟨n, rfl⟩ : ∃ j, p = j + 2 := ⟨p - 2, by have := h.1; omega⟩
  have b0 : bin (n + 2) 0 = 1 := rfl
  have b1 : bin (n + 2) (n + 1 + 1) = 1 := bin_self _
  have e : (x + 1) ^ (n + 2) = 1 + sm (fun i => bin (n + 2) (i + 1) * x ^ (i + 1)) (n + 1) + x ^ (n + 2) := by
   rw [binom, sm_shift, sm]
   rw [b0, b1, Nat.pow_zero, Nat.one_mul, Nat.one_mul]
   exact (Nat.add_assoc _ _ _).symm
  obtain ⟨c, hc⟩ : n + 2 ∣ sm (fun i => bin (n + 2) (i + 1) * x ^ (i + 1)) (n + 1) := sm_dvd _ fun i hi => Nat.dvd_trans (bin_dvd h (by omega) (by omega)) (Nat.dvd_mul_right _ _)
  rw [e, hc, Nat.add_assoc, Nat.add_comm, Nat.add_assoc, Nat.mul_add_mod]
  rw [Nat.add_mod, ih, ← Nat.add_mod]
theorem fermat1 {p x : Nat} (h : Pr p) (hx : ¬ p ∣ x) : x ^ (p - 1) % p = 1 := by
 have e := fermat h x
 obtain ⟨n, rfl⟩ : ∃ j, p = j + 2 := ⟨p - 2, by have := h.1; omega⟩
 rw [show n + 2 - 1 = n + 1 from by omega]
 have h1 : 1 ≤ x ^ (n + 1) := Nat.pos_of_ne_zero fun h0 => hx (by
  have : x = 0 := Nat.eq_zero_of_not_pos fun hp => absurd h0 (Nat.ne_of_gt (Nat.pow_pos hp))
  rw [this]; exact ⟨0, rfl⟩)
 have hd : n + 2 ∣ x * (x ^ (n + 1) - 1) := by
  have hle : x ≤ x ^ (n + 2) := by
   rw [Nat.pow_succ]
   exact Nat.le_mul_of_pos_left _ h1
  have := Nat.dvd_of_mod_eq_zero (Nat.sub_mod_eq_zero_of_mod_eq e)
  rwa [Nat.mul_sub, Nat.mul_one, Nat.mul_comm, ← Nat.pow_succ]
 rcases pr_mul h hd with hd | ⟨c, hc⟩
 ·exact absurd hd hx
 ·rw [show x ^ (n + 1) = 1 + (n + 2) * c from by omega, Nat.add_mul_mod_self_left]
  exact Nat.mod_eq_of_lt (by omega)
def pm (N : Nat) : Nat → Nat → Nat → Nat
 | 0, _, _ => 1 % N
 | f + 1, a, e => if e = 0 then 1 % N else if e % 2 = 1 then a * pm N f (a * a % N) (e / 2) % N else pm N f (a * a % N) (e / 2)
theorem pm_eq (N : Nat) : ∀ (f a e : Nat), e < 2 ^ f → pm N f a e = a ^ e % N
 | 0, a, e, h => by
  have : e = 0 := by simp at h; omega
  rw [this]; rfl
 | f + 1, a, e, h => by
  have ih := pm_eq N f (a * a % N) (e / 2) (by rw [Nat.pow_succ] at h; omega)
  have e2 : (a * a % N) ^ (e / 2) % N = a ^ (2 * (e / 2)) % N := by rw [← Nat.pow_mod, ← Nat.pow_two, ← Nat.pow_mul]
  rw [pm, ih, e2]
  split
  ·rename_i h0; rw [h0]; rfl
  ·split
   ·rw [Nat.mul_mod_mod, Nat.mul_comm, ← Nat.pow_succ, show (2 * (e / 2)).succ = e from by omega]
   ·rw [show 2 * (e / 2) = e from by omega]
theorem pow_gcd {r b : Nat} (m n : Nat) (h1 : b ^ m % r = 1 % r) (h2 : b ^ n % r = 1 % r) : b ^ Nat.gcd m n % r = 1 % r := by
 induction m, n using Nat.gcd.induction with
 | H0 n => rw [Nat.gcd_zero_left]; exact h2
 | H1 m n hm ih =>
  rw [Nat.gcd_rec]
  refine ih ?_ h1
  have e := h2
  rw [← Nat.div_add_mod n m, Nat.pow_add, Nat.pow_mul, Nat.mul_mod, Nat.pow_mod, h1, ← Nat.pow_mod, Nat.one_pow, ← Nat.mul_mod, Nat.one_mul] at e
  exact e
theorem pr_dvd : ∀ n, 2 ≤ n → ∃ r, Pr r ∧ r ∣ n := by
 intro n
 induction n using Nat.strongRecOn with
 | ind n ih =>
  intro hn
  by_cases h : Pr n
  ·exact ⟨n, h, Nat.dvd_refl n⟩
  ·have : ∃ d, d ∣ n ∧ d ≠ 1 ∧ d ≠ n := Classical.byContradiction fun hx => h ⟨hn, fun d hd => Classical.byContradiction fun hy => hx ⟨d, hd, fun e => hy (.inl e), fun e => hy (.inr e)⟩⟩
   obtain ⟨d, h1, h2, h3⟩ := this
   have hle := Nat.le_of_dvd (by omega) h1
   have hd0 : d ≠ 0 := fun e => by rw [e] at h1; have := Nat.eq_zero_of_zero_dvd h1; omega
   obtain ⟨r, hr, hrd⟩ := ih d (by omega) (by omega)
   exact ⟨r, hr, Nat.dvd_trans hrd h1⟩
theorem pock {N Q a : Nat} (hQ : Pr Q) (hQN : Q ∣ N - 1) (h1 : a ^ (N - 1) % N = 1) (h2 : Nat.gcd (a ^ ((N - 1) / Q) % N - 1) N = 1) : ∀ r, Pr r → r ∣ N → Q ∣ r - 1 := by
 intro r hr hrN
 refine Classical.byContradiction fun hn => ?_
 have hg := pr_gcd hQ hn
 have hmod : ∀ z, z % N % r = z % r := fun z => Nat.mod_mod_of_dvd z hrN
 have h1r : (a ^ ((N - 1) / Q)) ^ Q % r = 1 % r := by
  rw [← Nat.pow_mul, Nat.div_mul_cancel hQN, ← hmod, h1]
 have hra : ¬ r ∣ a ^ ((N - 1) / Q) := fun hd => by
  have h3 := Nat.mod_eq_zero_of_dvd hd
  rw [Nat.pow_mod, h3, Nat.zero_pow (by have := hQ.1; omega), Nat.zero_mod, Nat.mod_eq_of_lt (by have := hr.1; omega)] at h1r
  omega
 have h2r := fermat1 hr hra
 have h3 := pow_gcd Q (r - 1) h1r (by rw [h2r]; exact (Nat.mod_eq_of_lt (by have := hr.1; omega)).symm)
 rw [hg, Nat.pow_one, ← hmod] at h3
 have hd : r ∣ a ^ ((N - 1) / Q) % N - 1 := Nat.dvd_of_mod_eq_zero (Nat.sub_mod_eq_zero_of_mod_eq h3)
 have := Nat.dvd_gcd hd hrN
 rw [h2] at this
 have := Nat.le_of_dvd (by omega) this
 have := hr.1
 omega
theorem pr_of {N F : Nat} (hN : 2 ≤ N) (hF : N < F * F) (h : ∀ r, Pr r → r ∣ N → F ∣ r - 1) : Pr N := by
 have big : ∀ r, Pr r → r ∣ N → F < r := fun r hr hd => by
  have := Nat.le_of_dvd (by have := hr.1; omega) (h r hr hd)
  have := hr.1
  omega
 refine ⟨hN, fun d hd => Classical.byContradiction fun hx => ?_⟩
 obtain ⟨e, rfl⟩ := hd
 have hd2 : 2 ≤ d := by
  rcases d with _ | _ | d
  ·simp at hN
  ·exact absurd (.inl rfl) hx
  ·omega
 have he2 : 2 ≤ e := by
  rcases e with _ | _ | e
  ·simp at hN
  ·exact absurd (.inr (Nat.mul_one d).symm) hx
  ·omega
 obtain ⟨r, hr, hrd⟩ := pr_dvd d hd2
 obtain ⟨s, hs, hsd⟩ := pr_dvd e he2
 have b1 := big r hr (Nat.dvd_trans hrd (Nat.dvd_mul_right _ _))
 have b2 := big s hs (Nat.dvd_trans hsd (Nat.dvd_mul_left _ _))
 have l1 := Nat.le_of_dvd (by omega) hrd
 have l2 := Nat.le_of_dvd (by omega) hsd
 have := Nat.mul_le_mul (show F ≤ d by omega) (show F ≤ e by omega)
 omega
theorem two_dvd {Q R m : Nat} (hQ : Pr Q) (hR : Pr R) (hne : Q ≠ R) (h1 : Q ∣ m) (h2 : R ∣ m) : Q * R ∣ m := by
 refine Nat.Coprime.mul_dvd_of_dvd_of_dvd (pr_gcd hQ fun hd => ?_) h1 h2
 rcases hR.2 _ hd with e | e
 ·have := hQ.1; omega
 ·exact hne e
def nd (n : Nat) : Nat → Bool
 | 0 => true
 | k + 1 => (decide (k < 2) || decide (n % k ≠ 0)) && nd n k
theorem nd_at (n : Nat) : ∀ k, nd n k = true → ∀ d, 2 ≤ d → d < k → n % d ≠ 0
 | 0, _, d, _, h => by omega
 | k + 1, h, d, h2, hd => by
  rw [nd, Bool.and_eq_true, Bool.or_eq_true, decide_eq_true_eq, decide_eq_true_eq] at h
  by_cases e : d = k
  ·subst e
   rcases h.1 with h1 | h1
   ·omega
   ·exact h1
  ·exact nd_at n k h.2 d h2 (by omega)
theorem pr_small (n : Nat) (h2 : 2 ≤ n) (h : nd n n = true) : Pr n := ⟨h2, fun d hd => by
 have hle := Nat.le_of_dvd (by omega) hd
 by_cases e : d = n
 ·exact .inr e
 ·by_cases e1 : d = 1
  ·exact .inl e1
  ·have h0 : d ≠ 0 := fun e => by rw [e] at hd; have := Nat.eq_zero_of_zero_dvd hd; omega
   exact absurd (Nat.mod_eq_zero_of_dvd hd) (nd_at n n h d (by omega) (by omega))⟩
def step (N Q a f : Nat) : Bool := decide ((N - 1) % Q = 0) && decide (N - 1 < 2 ^ f) && decide (pm N f a (N - 1) = 1) && decide (Nat.gcd (pm N f a ((N - 1) / Q) - 1) N = 1)
theorem step_ok {N Q a : Nat} (f : Nat) (hQ : Pr Q) (h : step N Q a f = true) : ∀ r, Pr r → r ∣ N → Q ∣ r - 1 := by
 unfold step at h
 rw [Bool.and_eq_true, Bool.and_eq_true, Bool.and_eq_true, decide_eq_true_eq, decide_eq_true_eq, decide_eq_true_eq, decide_eq_true_eq] at h
 obtain ⟨⟨⟨h1, h2⟩, h3⟩, h4⟩ := h
 rw [pm_eq N f a _ h2] at h3
 rw [pm_eq N f a _ (Nat.lt_of_le_of_lt (Nat.div_le_self _ _) h2)] at h4
 exact pock hQ (Nat.dvd_of_mod_eq_zero h1) h3 h4
theorem pr_one {N Q a : Nat} (f : Nat) (hQ : Pr Q) (h : step N Q a f = true) (hN : 2 ≤ N) (hF : N < Q * Q) : Pr N := pr_of hN hF (step_ok f hQ h)
theorem pr_two {N Q R a b : Nat} (f : Nat) (hQ : Pr Q) (hR : Pr R) (hne : Q ≠ R) (h : step N Q a f = true) (h' : step N R b f = true) (hN : 2 ≤ N) (hF : N < (Q * R) * (Q * R)) : Pr N :=
 pr_of hN hF fun r hr hd => two_dvd hQ hR hne (step_ok f hQ h r hr hd) (step_ok f hR h' r hr hd)
theorem p991 : Pr 991 := pr_small _ (by decide) (by decide +kernel)
theorem p103 : Pr 103 := pr_small _ (by decide) (by decide +kernel)
theorem p8574133 : Pr 8574133 := pr_two (a := 2) (b := 2) 25 p991 p103 (by decide) (by decide +kernel) (by decide +kernel) (by decide) (by decide +kernel)
theorem p127 : Pr 127 := pr_small _ (by decide) (by decide +kernel)
theorem p1919519569386763 : Pr 1919519569386763 := pr_two (a := 2) (b := 2) 52 p8574133 p127 (by decide) (by decide +kernel) (by decide +kernel) (by decide) (by decide +kernel)
theorem p419 : Pr 419 := pr_small _ (by decide) (by decide +kernel)
theorem p97 : Pr 97 := pr_small _ (by decide) (by decide +kernel)
theorem p569003 : Pr 569003 := pr_two (a := 2) (b := 2) 21 p419 p97 (by decide) (by decide +kernel) (by decide +kernel) (by decide) (by decide +kernel)
theorem p2773320623 : Pr 2773320623 := pr_one (a := 2) 33 p569003 (by decide +kernel) (by decide) (by decide +kernel)
theorem p72106336199 : Pr 72106336199 := pr_one (a := 2) 38 p2773320623 (by decide +kernel) (by decide) (by decide +kernel)
theorem p75445702479781427272750846543864801 : Pr 75445702479781427272750846543864801 := pr_two (a := 2) (b := 2) 117 p1919519569386763 p72106336199 (by decide) (by decide +kernel) (by decide +kernel) (by decide) (by decide +kernel)
theorem p41 : Pr 41 := pr_small _ (by decide) (by decide +kernel)
theorem p7 : Pr 7 := pr_small _ (by decide) (by decide +kernel)
theorem p1723 : Pr 1723 := pr_two (a := 2) (b := 2) 12 p41 p7 (by decide) (by decide +kernel) (by decide +kernel) (by decide) (by decide +kernel)
theorem p430751 : Pr 430751 := pr_one (a := 2) 20 p1723 (by decide +kernel) (by decide) (by decide +kernel)
theorem p173 : Pr 173 := pr_small _ (by decide) (by decide +kernel)
theorem p4153 : Pr 4153 := pr_one (a := 2) 14 p173 (by decide +kernel) (by decide) (by decide +kernel)
theorem p31757755568855353 : Pr 31757755568855353 := pr_two (a := 2) (b := 2) 56 p430751 p4153 (by decide) (by decide +kernel) (by decide +kernel) (by decide) (by decide +kernel)
theorem p74058212732561358302231226437062788676166966415465897661863160754340907 : Pr 74058212732561358302231226437062788676166966415465897661863160754340907 := pr_two (a := 2) (b := 2) 237 p75445702479781427272750846543864801 p31757755568855353 (by decide) (by decide +kernel) (by decide +kernel) (by decide) (by decide +kernel)
theorem p57896044618658097711785492504343953926634992332820282019728792003956564819949 : Pr 57896044618658097711785492504343953926634992332820282019728792003956564819949 := pr_one (a := 2) 256 p74058212732561358302231226437062788676166966415465897661863160754340907 (by decide +kernel) (by decide) (by decide +kernel)

theorem pq_prime : Pr Pq := by unfold Pq; exact p57896044618658097711785492504343953926634992332820282019728792003956564819949
end Fm
theorem fone_val : (1 : FK).val = 1 := by
 show 1 % Pq = 1
 exact Nat.mod_eq_of_lt (by have := Pq_256.2; omega)
theorem fl1 (x y : FK) : x + y = y + x := Fin.ext (by rw [fadd_val, fadd_val, Nat.add_comm])
theorem fl2 (x y : FK) : x * y = y * x := Fin.mul_comm x y
theorem fl3 (x y z : FK) : x + y + z = x + (y + z) := Fin.ext (by simp only [fadd_val, Nat.mod_add_mod, Nat.add_mod_mod, Nat.add_assoc])
theorem fl4 (x y z : FK) : x * y * z = x * (y * z) := Fin.mul_assoc x y z
theorem fl7 (x : FK) : x + -x = 0 := Fin.ext (by
 have h : x.val < Pq := x.isLt
 rw [fadd_val, fneg_val, fzero_val, Nat.add_mod_mod, show x.val + (Pq - x.val) = Pq from by omega, Nat.mod_self])
theorem fl0 (x : FK) : x + 0 = x := Fin.ext (by rw [fadd_val, fzero_val, Nat.add_zero]; exact Nat.mod_eq_of_lt x.isLt)
theorem fl8 (x : FK) : x * 1 = x := Fin.mul_one x
theorem fmul0 (x : FK) : x * 0 = 0 := (fl2 _ _).trans (Fin.zero_mul x)
theorem fneg_eq {x y : FK} (h : x + y = 0) : y = -x := by
 have e : -x + (x + y) = y := by rw [← fl3, fl1 (-x) x, fl7, fl1, fl0]
 rw [← e, h, fl0]
theorem fl9 (x : FK) : - -x = x := (fneg_eq (show -x + x = 0 by rw [fl1, fl7])).symm
theorem small1 (w : World) : Calls Tryz.prog 89 #[.int .u32 1] w fun r w' => ∃ p q s t u : Nat, ev [p, q, s, t, u] = (1 : FK).val ∧ Red [p, q, s, t, u] ∧ r = .returned (.agg #[.int .u64 (p : Int), .int .u64 (q : Int), .int .u64 (s : Int), .int .u64 (t : Int), .int .u64 (u : Int)]) ∧ Below w.heap.size w w' := by
 rw [fone_val]
 exact smallE 1 w (by decide)
theorem fk_inv (x : FK) (h : x ≠ 0) : x * finv x = 1 := by
 apply Fin.ext
 rw [fmul_val, finv_val, fone_val, Nat.mul_mod_mod, Nat.mul_comm, ← Nat.pow_succ, show (Pq - 2).succ = Pq - 1 from by have := Pq_256.2; omega]
 exact Fm.fermat1 Fm.pq_prime fun hd => h (Fin.ext (by
  rw [fzero_val]
  exact Nat.eq_zero_of_dvd_of_lt hd x.isLt))
theorem fk_mul0 {x y : FK} (h : x * y = 0) : x = 0 ∨ y = 0 := by
 by_cases hx : x = 0
 ·exact .inl hx
 ·refine .inr ?_
  have hi := fk_inv x hx
  rw [← fl8 y, ← hi, ← fl4, fl2 y x, h, fl2, fmul0]
end Go.Proofs.YtnohmgpmmhlloaaGreatDoor

namespace Go.Proofs.YtnohmgpmmhlloaaGreatDoor
open Go.RowKit

def fpow (x : FK) (n : Nat) : FK := ⟨x.val ^ n % Pq, Nat.mod_lt _ pq_pos⟩
theorem fpow_val (x : FK) (n : Nat) : (fpow x n).val = x.val ^ n % Pq := rfl
theorem fpow_one (x : FK) : fpow x 1 = x := Fin.ext (by rw [fpow_val, Nat.pow_one, Nat.mod_eq_of_lt x.isLt])
theorem fpow_add (x : FK) (m n : Nat) : fpow x (m + n) = fpow x m * fpow x n := Fin.ext (by rw [fmul_val, fpow_val, fpow_val, fpow_val, Nat.pow_add, ← Nat.mul_mod])
theorem fpow_pow (x : FK) (m n : Nat) : fpow (fpow x m) n = fpow x (m * n) := Fin.ext (by rw [fpow_val, fpow_val, fpow_val, ← Nat.pow_mod, ← Nat.pow_mul])
theorem fpow_two (x : FK) : fpow x 2 = x * x := by rw [show 2 = 1 + 1 from rfl, fpow_add, fpow_one]
theorem fpow_zero' {n : Nat} (h : n ≠ 0) : fpow 0 n = 0 := Fin.ext (by rw [fpow_val, fzero_val, Nat.zero_pow (by omega), Nat.zero_mod])
theorem fermatF {x : FK} (h : x ≠ 0) : fpow x (Pq - 1) = 1 := Fin.ext (by
 rw [fpow_val, fone_val]
 exact Fm.fermat1 Fm.pq_prime fun hd => h (Fin.ext (by
  rw [fzero_val]
  exact Nat.eq_zero_of_dvd_of_lt hd x.isLt)))
theorem fone_ne : (1 : FK) ≠ 0 := fun e => by
 have h : (1 : FK).val = 0 := by rw [e, fzero_val]
 rw [fone_val] at h
 omega
theorem fneg_zero' : (-(0 : FK)) = 0 := (fneg_eq (fl0 0)).symm
theorem fne_mul {x y : FK} (h : x ≠ 0) (h' : y ≠ 0) : x * y ≠ 0 := fun e => (fk_mul0 e).elim h h'
theorem fcancel {a x y : FK} (ha : a ≠ 0) (h : a * x = a * y) : x = y := by
 have h1 : finv a * (a * x) = finv a * (a * y) := by rw [h]
 rw [← fl4, ← fl4, fl2 (finv a) a, fk_inv a ha, fl2, fl8, fl2, fl8] at h1
 exact h1
theorem ftwo_ne : (1 : FK) + 1 ≠ 0 := fun e => by
 have h : ((1 : FK) + 1).val = 0 := by rw [e, fzero_val]
 rw [fadd_val, fone_val, Nat.mod_eq_of_lt (by have := Pq_256.2; omega)] at h
 omega

@[irreducible] def dN : Nat := 37095705934669439343138083508754565189542113879843219016388785533085940283555
def dF : FK := ⟨dN, by unfold dN Pq; decide⟩
theorem fpow_pm (x : FK) (n f r : Nat) (hf : n < 2 ^ f) (h : Fm.pm Pq f x.val n = r) : (fpow x n).val = r := by
 rw [fpow_val, ← h, Fm.pm_eq Pq f _ _ hf]
theorem dF_val : dF.val = 37095705934669439343138083508754565189542113879843219016388785533085940283555 := by unfold dF; show dN = _; unfold dN; rfl
def iN : Nat := 19681161376707505956807079304988542015446066515923890162744021073123829784752
theorem iN_lt : iN < Pq := by unfold iN Pq; decide
def iF : FK := ⟨iN, iN_lt⟩
theorem iF_sq : iF * iF = -1 := Fin.ext (by
 rw [fmul_val, fneg_val, fone_val]
 show iN * iN % Pq = (Pq - 1) % Pq
 unfold iN Pq
 decide)
theorem pq_half : (Pq - 1) / 2 * 2 = Pq - 1 := by unfold Pq; decide
theorem d_half : fpow dF ((Pq - 1) / 2) = -1 := Fin.ext (by
 refine fpow_pm dF _ 256 _ (by unfold Pq; decide) ?_
 rw [dF_val, fneg_val, fone_val]
 unfold Pq
 decide +kernel)
theorem neg1_ne : (-1 : FK) ≠ 1 := fun e => ftwo_ne (by
 have h : (1 : FK) + -1 = 0 := fl7 1
 rwa [e] at h)
theorem d_nonsq (x : FK) : x * x ≠ dF := fun e => by
 have hx : x ≠ 0 := fun h0 => by
  have h1 := d_half
  rw [← e, h0, fmul0, fpow_zero' (by unfold Pq; decide)] at h1
  exact fone_ne (by rw [← fl9 (1 : FK), ← h1, fneg_zero'])
 have h1 := fermatF hx
 rw [← pq_half, Nat.mul_comm, ← fpow_pow, fpow_two, e, d_half] at h1
 exact neg1_ne h1
theorem d_ne : dF ≠ 0 := fun e => d_nonsq 0 (by rw [e, fmul0])
@[irreducible] def cF : FK := finv dF
theorem c_d : cF * dF = 1 := by unfold cF; rw [fl2]; exact fk_inv dF d_ne
theorem c_ne : cF ≠ 0 := fun e => fone_ne (by rw [← c_d, e, fl2, fmul0])
theorem nonsq {a b : FK} (h : a * a = dF * (b * b)) : a = 0 ∧ b = 0 := by
 by_cases hb : b = 0
 ·subst hb
  rw [fmul0, fmul0] at h
  exact ⟨(fk_mul0 h).elim id id, rfl⟩
 ·refine absurd ?_ (d_nonsq (a * finv b))
  have hi := fk_inv b hb
  have : a * finv b * (a * finv b) = dF * (b * finv b * (b * finv b)) := by grind
  rw [this, hi, fl8, fl8]

def On (x y : FK) : Prop := x * x * (y * y) = cF * (y * y - x * x - 1)
theorem on_d {x y : FK} (h : y * y - x * x = 1 + dF * (x * x * (y * y))) : On x y := by
 unfold On
 have := c_d
 grind
theorem d_on {x y : FK} (h : On x y) : y * y - x * x = 1 + dF * (x * x * (y * y)) := by
 unfold On at h
 have := c_d
 grind
theorem on_zero : On 0 1 := by unfold On; grind
theorem whole_plus {x1 y1 x2 y2 : FK} (h1 : On x1 y1) (h2 : On x2 y2) (e : FK) (he : e * e = 1) : 1 + e * (dF * (x1 * y1 * x2 * y2)) ≠ 0 := fun h => by
 have g1 := d_on h1
 have g2 := d_on h2
 have hi := iF_sq
 have k : dF * (x1 * y1 * x2 * y2) = -e := by grind
 have k2 : dF * dF * (x1 * x1 * (y1 * y1) * (x2 * x2 * (y2 * y2))) = 1 := by
  have : dF * dF * (x1 * x1 * (y1 * y1) * (x2 * x2 * (y2 * y2))) = (dF * (x1 * y1 * x2 * y2)) * (dF * (x1 * y1 * x2 * y2)) := by grind
  rw [this, k]; grind
 have s1 : (iF * x1 - e * y1) * (iF * x1 - e * y1) = dF * (x1 * y1 * (iF * x2 + y2) * (x1 * y1 * (iF * x2 + y2))) := by
  have a : (iF * x1 - e * y1) * (iF * x1 - e * y1) = y1 * y1 - x1 * x1 - (1 + 1) * iF * x1 * y1 * e := by grind
  have b : dF * (x1 * y1 * (iF * x2 + y2) * (x1 * y1 * (iF * x2 + y2))) = dF * (x1 * x1 * (y1 * y1)) * (y2 * y2 - x2 * x2) + (1 + 1) * iF * x1 * y1 * (dF * (x1 * y1 * x2 * y2)) := by grind
  rw [a, b, k, g1, g2]
  grind
 have s2 : (iF * x1 + e * y1) * (iF * x1 + e * y1) = dF * (x1 * y1 * (iF * x2 - y2) * (x1 * y1 * (iF * x2 - y2))) := by
  have a : (iF * x1 + e * y1) * (iF * x1 + e * y1) = y1 * y1 - x1 * x1 + (1 + 1) * iF * x1 * y1 * e := by grind
  have b : dF * (x1 * y1 * (iF * x2 - y2) * (x1 * y1 * (iF * x2 - y2))) = dF * (x1 * x1 * (y1 * y1)) * (y2 * y2 - x2 * x2) - (1 + 1) * iF * x1 * y1 * (dF * (x1 * y1 * x2 * y2)) := by grind
  rw [a, b, k, g1, g2]
  grind
 have z1 := (nonsq s1).1
 have z2 := (nonsq s2).1
 have hx : (1 + 1) * (iF * x1) = 0 := by grind
 have hx1 : iF * x1 = 0 := (fk_mul0 hx).elim (fun h => absurd h ftwo_ne) id
 have hine : iF ≠ 0 := fun e0 => fone_ne (by rw [← fl9 (1 : FK), ← iF_sq, e0, fmul0, fneg_zero'])
 have hx0 : x1 = 0 := (fk_mul0 hx1).elim (fun h => absurd h hine) id
 rw [hx0] at k2
 exact fone_ne (by rw [← k2]; grind)
theorem den_p {x1 y1 x2 y2 : FK} (h1 : On x1 y1) (h2 : On x2 y2) : cF + x1 * y1 * x2 * y2 ≠ 0 := fun h => whole_plus h1 h2 1 (fl8 1) (by have := c_d; grind)
theorem den_m {x1 y1 x2 y2 : FK} (h1 : On x1 y1) (h2 : On x2 y2) : cF - x1 * y1 * x2 * y2 ≠ 0 := fun h => whole_plus h1 h2 (-1) (by grind) (by have := c_d; grind)
structure Ed where
 x : FK
 y : FK
 on : On x y
theorem Ed.eq {p q : Ed} (hx : p.x = q.x) (hy : p.y = q.y) : p = q := by
 cases p; cases q
 cases hx; cases hy
 rfl
section
variable (p q r : Ed)
def dP : FK := cF + p.x * p.y * q.x * q.y
def dM : FK := cF - p.x * p.y * q.x * q.y
def nX : FK := p.x * q.y + p.y * q.x
def nY : FK := p.y * q.y + p.x * q.x
theorem dP_ne : dP p q ≠ 0 := den_p p.on q.on
theorem dM_ne : dM p q ≠ 0 := den_m p.on q.on
end
theorem frac {a b : FK} (ha : a ≠ 0) : a * (b * finv a) = b := by
 have := fk_inv a ha
 grind
theorem clo {x1 y1 x2 y2 c : FK} (h1 : x1*x1*(y1*y1) = c*(y1*y1 - x1*x1 - 1)) (h2 : x2*x2*(y2*y2) = c*(y2*y2 - x2*x2 - 1)) :
 c*c*c*((x1*y2+y1*x2)*(x1*y2+y1*x2))*((y1*y2+x1*x2)*(y1*y2+x1*x2)) = c*c*((y1*y2+x1*x2)*(y1*y2+x1*x2)*((c+x1*y1*x2*y2)*(c+x1*y1*x2*y2)) - (x1*y2+y1*x2)*(x1*y2+y1*x2)*((c-x1*y1*x2*y2)*(c-x1*y1*x2*y2))) - (c+x1*y1*x2*y2)*(c+x1*y1*x2*y2)*((c-x1*y1*x2*y2)*(c-x1*y1*x2*y2)) := by grind
theorem on_sum (p q : Ed) : On (cF * nX p q * finv (dP p q)) (cF * nY p q * finv (dM p q)) := by
 have hD := dP_ne p q
 have hE := dM_ne p q
 have h := clo p.on q.on
 have eX := frac (b := cF * nX p q) hD
 have eY := frac (b := cF * nY p q) hE
 generalize cF * nX p q * finv (dP p q) = X at eX ⊢
 generalize cF * nY p q * finv (dM p q) = Y at eY ⊢
 unfold On
 have hne := fne_mul (fne_mul hD hD) (fne_mul hE hE)
 refine fcancel hne ?_
 have h' : cF * cF * cF * (nX p q * nX p q) * (nY p q * nY p q) = cF * cF * (nY p q * nY p q * (dP p q * dP p q) - nX p q * nX p q * (dM p q * dM p q)) - dP p q * dP p q * (dM p q * dM p q) := h
 generalize nX p q = N at h' eX
 generalize nY p q = M at h' eY
 generalize dP p q = D at h' eX ⊢
 generalize dM p q = E at h' eY ⊢
 have l : D * D * (E * E) * (X * X * (Y * Y)) = (D * X) * (D * X) * ((E * Y) * (E * Y)) := by grind
 have r : D * D * (E * E) * (cF * (Y * Y - X * X - 1)) = cF * (D * D * ((E * Y) * (E * Y)) - E * E * ((D * X) * (D * X)) - D * D * (E * E)) := by grind
 rw [l, r, eX, eY]
 grind
@[irreducible] def Ed.add (p q : Ed) : Ed := ⟨cF * nX p q * finv (dP p q), cF * nY p q * finv (dM p q), on_sum p q⟩
theorem add_x (p q : Ed) : dP p q * (p.add q).x = cF * nX p q := by unfold Ed.add; exact frac (dP_ne p q)
theorem add_y (p q : Ed) : dM p q * (p.add q).y = cF * nY p q := by unfold Ed.add; exact frac (dM_ne p q)
theorem add_is {p q r : Ed} (hx : dP p q * r.x = cF * nX p q) (hy : dM p q * r.y = cF * nY p q) : p.add q = r :=
 Ed.eq (fcancel (dP_ne p q) ((add_x p q).trans hx.symm)) (fcancel (dM_ne p q) ((add_y p q).trans hy.symm))
def Ed.zero : Ed := ⟨0, 1, on_zero⟩
def Ed.neg (p : Ed) : Ed := ⟨-p.x, p.y, by have h := p.on; unfold On at h ⊢; grind⟩
theorem ed_zero (p : Ed) : p.add .zero = p := by
 refine add_is ?_ ?_
 ·unfold dP nX Ed.zero; grind
 ·unfold dM nY Ed.zero; grind
theorem ass_x {x1 y1 x2 y2 x3 y3 c N1 M1 D1 E1 N2 M2 D2 E2 : FK} (h1 : x1*x1*(y1*y1) = c*(y1*y1 - x1*x1 - 1)) (h2 : x2*x2*(y2*y2) = c*(y2*y2 - x2*x2 - 1)) (h3 : x3*x3*(y3*y3) = c*(y3*y3 - x3*x3 - 1))
 (a1 : N1 = x1*y2+y1*x2) (a2 : M1 = y1*y2+x1*x2) (a3 : D1 = c+x1*y1*x2*y2) (a4 : E1 = c-x1*y1*x2*y2)
 (b1 : N2 = x2*y3+y2*x3) (b2 : M2 = y2*y3+x2*x3) (b3 : D2 = c+x2*y2*x3*y3) (b4 : E2 = c-x2*y2*x3*y3) :
 (N1*E1*y3 + M1*D1*x3)*(D2*E2 + c*N2*M2*(x1*y1)) = (x1*M2*D2 + y1*N2*E2)*(D1*E1 + c*N1*M1*(x3*y3)) := by
 subst a1 a2 a3 a4 b1 b2 b3 b4
 grind
theorem ass_y {x1 y1 x2 y2 x3 y3 c N1 M1 D1 E1 N2 M2 D2 E2 : FK} (h1 : x1*x1*(y1*y1) = c*(y1*y1 - x1*x1 - 1)) (h2 : x2*x2*(y2*y2) = c*(y2*y2 - x2*x2 - 1)) (h3 : x3*x3*(y3*y3) = c*(y3*y3 - x3*x3 - 1))
 (a1 : N1 = x1*y2+y1*x2) (a2 : M1 = y1*y2+x1*x2) (a3 : D1 = c+x1*y1*x2*y2) (a4 : E1 = c-x1*y1*x2*y2)
 (b1 : N2 = x2*y3+y2*x3) (b2 : M2 = y2*y3+x2*x3) (b3 : D2 = c+x2*y2*x3*y3) (b4 : E2 = c-x2*y2*x3*y3) :
 (M1*D1*y3 + N1*E1*x3)*(D2*E2 - c*N2*M2*(x1*y1)) = (y1*M2*D2 + x1*N2*E2)*(D1*E1 - c*N1*M1*(x3*y3)) := by
 subst a1 a2 a3 a4 b1 b2 b3 b4
 grind
theorem ass_end {a b U V U' V' L R : FK} (hU : U ≠ 0) (hU' : U' ≠ 0) (h : V * U' = V' * U) (hL : U * L = a * V) (hR : U' * R = b * V') (hab : a = b) : L = R := by
 subst hab
 refine fcancel (fne_mul hU hU') ?_
 have e1 : U * U' * L = U' * (U * L) := by grind
 have e2 : U * U' * R = U * (U' * R) := by grind
 rw [e1, e2, hL, hR]
 grind
theorem ass_l {c D1 E1 N1 M1 X Y x3 y3 : FK} (eX : D1 * X = c * N1) (eY : E1 * Y = c * M1) (s : FK) (hD : D1 ≠ 0) (hE : E1 ≠ 0) (hs : c + s * (X * Y * x3 * y3) ≠ 0) :
  D1 * E1 + s * (c * N1 * M1 * (x3 * y3)) ≠ 0 := fun h => by
 refine fne_mul (fne_mul hD hE) hs ?_
 have e : D1 * E1 * (c + s * (X * Y * x3 * y3)) = c * D1 * E1 + s * ((D1 * X) * (E1 * Y) * (x3 * y3)) := by grind
 rw [e, eX, eY]
 have : c * (D1 * E1 + s * (c * N1 * M1 * (x3 * y3))) = 0 := by rw [h, fmul0]
 grind
theorem fm1 (a b : FK) : a + -1 * b = a - b := by grind
theorem f1m (a b : FK) : a + 1 * b = a + b := by grind
theorem swap4 (x y z t : FK) : x * y * z * t = z * t * x * y := by grind
theorem ass1 {c D E N M X Y x y L : FK} (hc : c ≠ 0) (a1 : D * X = c * N) (a2 : E * Y = c * M) (l : (c + X * Y * x * y) * L = c * (X * y + Y * x)) : (D * E + c * N * M * (x * y)) * L = c * (N * E * y + M * D * x) := by
 refine fcancel hc ?_
 have e : c * ((D * E + c * N * M * (x * y)) * L) = (D * E) * ((c + X * Y * x * y) * L) := by
  have : (D * E) * ((c + X * Y * x * y) * L) = (c * D * E + (D * X) * (E * Y) * (x * y)) * L := by grind
  rw [this, a1, a2]; grind
 have e2 : D * E * (c * (X * y + Y * x)) = c * (E * y * (D * X) + D * x * (E * Y)) := by grind
 rw [e, l, e2, a1, a2]; grind
theorem ass2 {c D E N M X Y x y L : FK} (hc : c ≠ 0) (a1 : D * X = c * N) (a2 : E * Y = c * M) (l : (c + x * y * X * Y) * L = c * (x * Y + y * X)) : (D * E + c * N * M * (x * y)) * L = c * (x * M * D + y * N * E) := by
 refine fcancel hc ?_
 have e : c * ((D * E + c * N * M * (x * y)) * L) = (D * E) * ((c + x * y * X * Y) * L) := by
  have : (D * E) * ((c + x * y * X * Y) * L) = (c * D * E + (D * X) * (E * Y) * (x * y)) * L := by grind
  rw [this, a1, a2]; grind
 have e2 : D * E * (c * (x * Y + y * X)) = c * (D * x * (E * Y) + E * y * (D * X)) := by grind
 rw [e, l, e2, a1, a2]; grind
theorem ass3 {c D E N M X Y x y L : FK} (hc : c ≠ 0) (a1 : D * X = c * N) (a2 : E * Y = c * M) (l : (c - X * Y * x * y) * L = c * (Y * y + X * x)) : (D * E - c * N * M * (x * y)) * L = c * (M * D * y + N * E * x) := by
 refine fcancel hc ?_
 have e : c * ((D * E - c * N * M * (x * y)) * L) = (D * E) * ((c - X * Y * x * y) * L) := by
  have : (D * E) * ((c - X * Y * x * y) * L) = (c * D * E - (D * X) * (E * Y) * (x * y)) * L := by grind
  rw [this, a1, a2]; grind
 have e2 : D * E * (c * (Y * y + X * x)) = c * (D * y * (E * Y) + E * x * (D * X)) := by grind
 rw [e, l, e2, a1, a2]; grind
theorem ass4 {c D E N M X Y x y L : FK} (hc : c ≠ 0) (a1 : D * X = c * N) (a2 : E * Y = c * M) (l : (c - x * y * X * Y) * L = c * (y * Y + x * X)) : (D * E - c * N * M * (x * y)) * L = c * (y * M * D + x * N * E) := by
 refine fcancel hc ?_
 have e : c * ((D * E - c * N * M * (x * y)) * L) = (D * E) * ((c - x * y * X * Y) * L) := by
  have : (D * E) * ((c - x * y * X * Y) * L) = (c * D * E - (D * X) * (E * Y) * (x * y)) * L := by grind
  rw [this, a1, a2]; grind
 have e2 : D * E * (c * (y * Y + x * X)) = c * (D * y * (E * Y) + E * x * (D * X)) := by grind
 rw [e, l, e2, a1, a2]; grind
theorem ed_assoc (p q r : Ed) : (p.add q).add r = p.add (q.add r) := by
 have a1 := add_x p q
 have a2 := add_y p q
 have b1 := add_x q r
 have b2 := add_y q r
 have l1 := add_x (p.add q) r
 have l2 := add_y (p.add q) r
 have r1 := add_x p (q.add r)
 have r2 := add_y p (q.add r)
 have n1 := dP_ne p q
 have n2 := dM_ne p q
 have n3 := dP_ne q r
 have n4 := dM_ne q r
 have m1 := dP_ne (p.add q) r
 have m2 := dM_ne (p.add q) r
 have m3 := dP_ne p (q.add r)
 have m4 := dM_ne p (q.add r)
 have hx := ass_x (N1 := nX p q) (M1 := nY p q) (D1 := dP p q) (E1 := dM p q) (N2 := nX q r) (M2 := nY q r) (D2 := dP q r) (E2 := dM q r) p.on q.on r.on rfl rfl rfl rfl rfl rfl rfl rfl
 have hy := ass_y (N1 := nX p q) (M1 := nY p q) (D1 := dP p q) (E1 := dM p q) (N2 := nX q r) (M2 := nY q r) (D2 := dP q r) (E2 := dM q r) p.on q.on r.on rfl rfl rfl rfl rfl rfl rfl rfl
 have hc := c_ne
 unfold dP nX at l1
 unfold dM nY at l2
 unfold dP nX at r1
 unfold dM nY at r2
 unfold dP at m1 m3
 unfold dM at m2 m4
 generalize (p.add q).add r = L at l1 l2 ⊢
 generalize p.add (q.add r) = R at r1 r2 ⊢
 generalize p.add q = S at a1 a2 l1 l2 m1 m2
 generalize q.add r = T at b1 b2 r1 r2 m3 m4
 generalize nX p q = N1 at *
 generalize nY p q = M1 at *
 generalize dP p q = D1 at *
 generalize dM p q = E1 at *
 generalize nX q r = N2 at *
 generalize nY q r = M2 at *
 generalize dP q r = D2 at *
 generalize dM q r = E2 at *
 have u1 := ass_l (x3 := r.x) (y3 := r.y) a1 a2 1 n1 n2 (fun h => m1 ((f1m _ _).symm.trans h))
 have u2 := ass_l (x3 := r.x) (y3 := r.y) a1 a2 (-1) n1 n2 (fun h => m2 ((fm1 _ _).symm.trans h))
 have u3 := ass_l (x3 := p.x) (y3 := p.y) b1 b2 1 n3 n4 (fun h => m3 (((congrArg (cF + ·) (swap4 _ _ _ _)).trans (f1m _ _).symm).trans h))
 have u4 := ass_l (x3 := p.x) (y3 := p.y) b1 b2 (-1) n3 n4 (fun h => m4 (((congrArg (cF - ·) (swap4 _ _ _ _)).trans (fm1 _ _).symm).trans h))
 refine Ed.eq ?_ ?_
 ·exact ass_end (a := cF) (b := cF) (U := D1 * E1 + cF * N1 * M1 * (r.x * r.y)) (U' := D2 * E2 + cF * N2 * M2 * (p.x * p.y)) (fun h => u1 ((f1m _ _).trans h)) (fun h => u3 ((f1m _ _).trans h)) hx (ass1 hc a1 a2 l1) (ass2 hc b1 b2 r1) rfl
 ·exact ass_end (a := cF) (b := cF) (U := D1 * E1 - cF * N1 * M1 * (r.x * r.y)) (U' := D2 * E2 - cF * N2 * M2 * (p.x * p.y)) (fun h => u2 ((fm1 _ _).trans h)) (fun h => u4 ((fm1 _ _).trans h)) hy (ass3 hc a1 a2 l2) (ass4 hc b1 b2 r2) rfl
end Go.Proofs.YtnohmgpmmhlloaaGreatDoor

namespace Go.Proofs.YtnohmgpmmhlloaaGreatDoor
open Go.RowKit

def tmE (P : Ed) : Nat → Ed
 | 0 => .zero
 | n + 1 => (tmE P n).add P
theorem tmE_add (P : Ed) (a : Nat) : ∀ b, tmE P (a + b) = (tmE P a).add (tmE P b)
 | 0 => (ed_zero _).symm
 | b + 1 => by
  show (tmE P (a + b)).add P = (tmE P a).add ((tmE P b).add P)
  rw [tmE_add P a b, ed_assoc]
theorem tmE_bit (P : Ed) (V k : Nat) : tmE P (V / 2 ^ k) = if V / 2 ^ k % 2 = 1 then ((tmE P (V / 2 ^ (k + 1))).add (tmE P (V / 2 ^ (k + 1)))).add P else (tmE P (V / 2 ^ (k + 1))).add (tmE P (V / 2 ^ (k + 1))) := by
 have e : V / 2 ^ (k + 1) = V / 2 ^ k / 2 := by rw [Nat.pow_succ, Nat.div_div_eq_div_mul]
 rw [e]
 generalize V / 2 ^ k = U
 split
 ·rename_i h
  conv => lhs; rw [show U = U / 2 + U / 2 + 1 from by omega]
  show (tmE P (U / 2 + U / 2)).add P = _
  rw [tmE_add]
 ·rename_i h
  conv => lhs; rw [show U = U / 2 + U / 2 from by omega]
  rw [tmE_add]

structure Pj where
 X : FK
 Y : FK
 Z : FK
 T : FK
def plJ (p q : Pj) : Pj :=
 ⟨((p.Y + p.X) * (q.Y + q.X) - (p.Y - p.X) * (q.Y - q.X)) * (p.Z * q.Z + p.Z * q.Z - (p.T * q.T * dF + p.T * q.T * dF)),
  (p.Z * q.Z + p.Z * q.Z + (p.T * q.T * dF + p.T * q.T * dF)) * ((p.Y + p.X) * (q.Y + q.X) + (p.Y - p.X) * (q.Y - q.X)),
  (p.Z * q.Z + p.Z * q.Z - (p.T * q.T * dF + p.T * q.T * dF)) * (p.Z * q.Z + p.Z * q.Z + (p.T * q.T * dF + p.T * q.T * dF)),
  ((p.Y + p.X) * (q.Y + q.X) - (p.Y - p.X) * (q.Y - q.X)) * ((p.Y + p.X) * (q.Y + q.X) + (p.Y - p.X) * (q.Y - q.X))⟩
structure Rp (A : Pj) (P : Ed) : Prop where
 z : A.Z ≠ 0
 x : A.X = P.x * A.Z
 y : A.Y = P.y * A.Z
 t : A.T = P.x * P.y * A.Z
theorem rp_zero : Rp ⟨0, 1, 1, 0⟩ .zero := ⟨fone_ne, by show (0 : FK) = 0 * 1; grind, by show (1 : FK) = 1 * 1; grind, by show (0 : FK) = 0 * 1 * 1; grind⟩
theorem rp_of (P : Ed) : Rp ⟨P.x, P.y, 1, P.x * P.y⟩ P := ⟨fone_ne, (fl8 _).symm, (fl8 _).symm, (fl8 _).symm⟩
theorem pl_f {x1 y1 z1 x2 y2 z2 : FK} : (y1 * z1 + x1 * z1) * (y2 * z2 + x2 * z2) - (y1 * z1 - x1 * z1) * (y2 * z2 - x2 * z2) = (1 + 1) * (z1 * z2) * (x1 * y2 + y1 * x2) := by grind
theorem pl_k {x1 y1 z1 x2 y2 z2 : FK} : (y1 * z1 + x1 * z1) * (y2 * z2 + x2 * z2) + (y1 * z1 - x1 * z1) * (y2 * z2 - x2 * z2) = (1 + 1) * (z1 * z2) * (y1 * y2 + x1 * x2) := by grind
theorem pl_g {x1 y1 z1 x2 y2 z2 c d : FK} (h : c * d = 1) : z1 * z2 + z1 * z2 - (x1 * y1 * z1 * (x2 * y2 * z2) * d + x1 * y1 * z1 * (x2 * y2 * z2) * d) = (1 + 1) * (z1 * z2) * d * (c - x1 * y1 * x2 * y2) := by grind
theorem pl_h {x1 y1 z1 x2 y2 z2 c d : FK} (h : c * d = 1) : z1 * z2 + z1 * z2 + (x1 * y1 * z1 * (x2 * y2 * z2) * d + x1 * y1 * z1 * (x2 * y2 * z2) * d) = (1 + 1) * (z1 * z2) * d * (c + x1 * y1 * x2 * y2) := by grind
theorem pl_x {c d N D x1 zz E : FK} (h : c * d = 1) (ax : D * x1 = c * N) : (1 + 1) * zz * N * ((1 + 1) * zz * d * E) = x1 * ((1 + 1) * zz * d * E * ((1 + 1) * zz * d * D)) := by
 have e : x1 * ((1 + 1) * zz * d * E * ((1 + 1) * zz * d * D)) = (1 + 1) * zz * d * E * ((1 + 1) * zz * d) * (D * x1) := by grind
 rw [e, ax]
 grind
theorem pl_y {c d M D y1 zz E : FK} (h : c * d = 1) (ay : E * y1 = c * M) : (1 + 1) * zz * d * D * ((1 + 1) * zz * M) = y1 * ((1 + 1) * zz * d * E * ((1 + 1) * zz * d * D)) := by
 have e : y1 * ((1 + 1) * zz * d * E * ((1 + 1) * zz * d * D)) = (1 + 1) * zz * d * D * ((1 + 1) * zz * d) * (E * y1) := by grind
 rw [e, ay]
 grind
theorem pl_t {c d N M D x1 y1 zz E : FK} (h : c * d = 1) (ax : D * x1 = c * N) (ay : E * y1 = c * M) : (1 + 1) * zz * N * ((1 + 1) * zz * M) = x1 * y1 * ((1 + 1) * zz * d * E * ((1 + 1) * zz * d * D)) := by
 have e : x1 * y1 * ((1 + 1) * zz * d * E * ((1 + 1) * zz * d * D)) = (1 + 1) * zz * d * ((1 + 1) * zz * d) * ((D * x1) * (E * y1)) := by grind
 rw [e, ax, ay]
 grind
theorem rp_plus {A B : Pj} {P Q : Ed} (h : Rp A P) (h' : Rp B Q) : Rp (plJ A B) (P.add Q) := by
 have ax := add_x P Q
 have ay := add_y P Q
 have nP := dP_ne P Q
 have nM := dM_ne P Q
 have hz := fne_mul h.z h'.z
 have hcd := c_d
 have f := pl_f (x1 := P.x) (y1 := P.y) (z1 := A.Z) (x2 := Q.x) (y2 := Q.y) (z2 := B.Z)
 have k := pl_k (x1 := P.x) (y1 := P.y) (z1 := A.Z) (x2 := Q.x) (y2 := Q.y) (z2 := B.Z)
 have g := pl_g (x1 := P.x) (y1 := P.y) (z1 := A.Z) (x2 := Q.x) (y2 := Q.y) (z2 := B.Z) hcd
 have hh := pl_h (x1 := P.x) (y1 := P.y) (z1 := A.Z) (x2 := Q.x) (y2 := Q.y) (z2 := B.Z) hcd
 rw [← h.x, ← h.y, ← h'.x, ← h'.y] at f k
 rw [← h.t, ← h'.t] at g hh
 have e2 := ftwo_ne
 have hd := d_ne
 have w0 := fne_mul (fne_mul (fne_mul (fne_mul e2 hz) hd) nM) (fne_mul (fne_mul (fne_mul e2 hz) hd) nP)
 refine ⟨?_, ?_, ?_, ?_⟩
 ·show (_ : FK) * _ ≠ 0
  rw [g, hh]
  exact w0
 ·show (_ : FK) * _ = _ * (_ * _)
  rw [g, hh, f]
  exact pl_x hcd ax
 ·show (_ : FK) * _ = _ * (_ * _)
  rw [g, hh, k]
  exact pl_y hcd ay
 ·show (_ : FK) * _ = _ * _ * (_ * _)
  rw [g, hh, f, k]
  exact pl_t hcd ax ay
theorem rp_x {A : Pj} {P : Ed} (h : Rp A P) : A.X * finv A.Z = P.x := by
 have := fk_inv A.Z h.z
 rw [h.x]
 grind
theorem rp_y {A : Pj} {P : Ed} (h : Rp A P) : A.Y * finv A.Z = P.y := by
 have := fk_inv A.Z h.z
 rw [h.y]
 grind

def toF (n : Nat) : FK := ⟨n % Pq, Nat.mod_lt _ pq_pos⟩
theorem toF_mod (n : Nat) : toF (n % Pq) = toF n := Fin.ext (Nat.mod_mod _ _)
theorem toF_add (a b : Nat) : toF (a + b) = toF a + toF b := Fin.ext (by rw [fadd_val]; exact Nat.add_mod _ _ _)
theorem toF_mul (a b : Nat) : toF (a * b) = toF a * toF b := Fin.ext (by rw [fmul_val]; exact Nat.mul_mod _ _ _)
theorem toF_one : toF 1 = 1 := Fin.ext (by rw [fone_val]; exact Nat.mod_eq_of_lt (by have := Pq_256.2; omega))
theorem toF_m1 : toF (Pq - 1) = -1 := Fin.ext (by rw [fneg_val, fone_val]; rfl)
theorem toF_sub (a b : Nat) : toF (a + (Pq - 1) * b) = toF a - toF b := by
 rw [toF_add, toF_mul, toF_m1]
 grind
structure Nj where
 X : Nat
 Y : Nat
 Z : Nat
 T : Nat
def plN (P d : Nat) (p q : Nj) : Nj :=
 let a := (p.Y + (P - 1) * p.X) * (q.Y + (P - 1) * q.X) % P
 let b := (p.Y + p.X) * (q.Y + q.X) % P
 let c := p.T * q.T % P * d % P
 let e := p.Z * q.Z % P
 let f := (b + (P - 1) * a) % P
 let g := (e + e + (P - 1) * (c + c)) % P
 let h := (e + e + (c + c)) % P
 let k := (b + a) % P
 ⟨f * g % P, h * k % P, g * h % P, f * k % P⟩
def mulN (P d V : Nat) (B : Nj) : Nat → Nj → Nj
 | 0, A => A
 | k + 1, A => mulN P d V B k (if V / 2 ^ k % 2 = 1 then plN P d (plN P d A A) B else plN P d A A)
def bxV : Nat := 15112221349535400772501151409588531511454012693041857206046113283949847762202
def byV : Nat := 46316835694926478169428394003475163141307993866256225615783033603165251855960
def Bp : Ed := ⟨toF bxV, toF byV, on_d (by
 have hd : dF = toF dN := Fin.ext (Nat.mod_eq_of_lt dF.isLt).symm
 have e : toF byV * toF byV - toF bxV * toF bxV = toF ((byV * byV + (Pq - 1) * (bxV * bxV)) % Pq) := by rw [toF_mod, toF_sub, toF_mul, toF_mul]
 have e2 : 1 + dF * (toF bxV * toF bxV * (toF byV * toF byV)) = toF ((1 + dN * (bxV * bxV * (byV * byV))) % Pq) := by rw [toF_mod, hd, toF_add, toF_mul, toF_mul, toF_mul, toF_mul, toF_one]
 rw [e, e2]
 refine congrArg toF ?_
 unfold Pq dN bxV byV
 decide +kernel)⟩
def Lq : Nat := 7237005577332262213973186563042994240857116359379907606001950938285454250989
namespace Fm
theorem q5 : Pr 5 := pr_small _ (by decide) (by decide +kernel)
end Fm
end Go.Proofs.YtnohmgpmmhlloaaGreatDoor

namespace Go.Proofs.YtnohmgpmmhlloaaGreatDoor
open Go.RowKit
set_option linter.unusedSimpArgs false

theorem parse_hex (d1 d2 : Nat) (h1 : d1 < 16) (h2 : d2 < 16) (w : World) :
  Calls Tryz.prog 120 #[.string (twoB (hxN d1) (hxN d2)), .int .i64 16, .int .i64 8] w fun e w' => e = .returned (.tuple #[.int .u64 ((16 * d1 + d2 : Nat) : Int), .nilIface]) ∧ Below w.heap.size w w' := by
 have HC := hide (parseI_hex d1 d2 h1 h2 w)
 generalize twoB (hxN d1) (hxN d2) = s at *
 generalize ((16 * d1 + d2 : Nat) : Int) = v at *
 clear h1 h2
 go_enter Tryz.func120, Tryz.ntmps120
 go_wp2_with (go_at_call 160; (with_reducible refine HC.out.mono ?_); rintro e w' ⟨rfl, hb⟩)
 go_ret2
 exact ⟨rfl, hb⟩
def hexT (vs : List Nat) : List UInt8 := vs.reverse.flatMap fun v => [UInt8.ofNat (hxN (v / 16)), UInt8.ofNat (hxN (v % 16))]
theorem hexT_len (vs : List Nat) : (hexT vs).length = 2 * vs.length := by
 unfold hexT
 generalize hr : vs.reverse = us
 have hl : us.length = vs.length := by rw [← hr, List.length_reverse]
 rw [← hl]
 clear hr hl
 induction us with
 | nil => rfl
 | cons u us ih => rw [List.flatMap_cons, List.length_append, ih]; simp; omega
theorem hexT_snoc (vs : List Nat) (v : Nat) : hexT (vs ++ [v]) = [UInt8.ofNat (hxN (v / 16)), UInt8.ofNat (hxN (v % 16))] ++ hexT vs := by
 unfold hexT
 rw [List.reverse_append, List.flatMap_append]
 simp
theorem hexT_app (vs us : List Nat) : hexT (vs ++ us) = hexT us ++ hexT vs := by
 unfold hexT
 rw [List.reverse_append, List.flatMap_append]
theorem hexT_at {vs : List Nat} {j v : Nat} (h : vs[j]? = some v) : ((hexT vs).drop (2 * (vs.length - 1 - j))).take 2 = [UInt8.ofNat (hxN (v / 16)), UInt8.ofNat (hxN (v % 16))] := by
 have hj := (List.getElem?_eq_some_iff.1 h).1
 have h1 : vs[j] = v := (List.getElem?_eq_some_iff.1 h).2
 have e : vs.drop j = v :: vs.drop (j + 1) := by rw [← h1]; exact List.drop_eq_getElem_cons hj
 have e2 : vs = vs.take j ++ v :: vs.drop (j + 1) := by rw [← e, List.take_append_drop]
 have hl : (hexT (vs.drop (j + 1))).length = 2 * (vs.length - 1 - j) := by rw [hexT_len, List.length_drop]; omega
 have e3 : hexT vs = hexT (vs.drop (j + 1)) ++ ([UInt8.ofNat (hxN (v / 16)), UInt8.ofNat (hxN (v % 16))] ++ hexT (vs.take j)) := by
  conv => lhs; rw [e2, show vs.take j ++ v :: vs.drop (j + 1) = (vs.take j ++ [v]) ++ vs.drop (j + 1) from by simp, hexT_app, hexT_snoc]
 rw [e3, ← hl, List.drop_left]
 rfl
theorem strOf_size (l : List UInt8) : (strOf l).size = l.length := by rw [strOf_eq]; simp [ByteArray.size]
theorem run_cutMid {P : Program} {t : TypeId} (ht : P.underlying t = some .string) (l x : List UInt8) (i j : Nat) (hi : i ≤ j) (hj : j ≤ l.length) (hx : (l.drop i).take (j - i) = x) (I J : Int) (eI : I = (i : Int)) (eJ : J = (j : Int)) (W : World) :
  (Instr.sliceAt t (.string (strOf l)) (some (.int .i64 I)) (some (.int .i64 J)) none).run P W = .ok (.string (strOf x)) W := by
 subst eI eJ hx
 rw [run_sliceAt_string W t _ _ _ _ ht, run_slice_string W t _ _ _ _ _ ht (by omega) (by omega) (by rw [strOf_size]; omega), strOf_eq, ByteArray.extract_mk, strOf_eq]
 rfl
def byL (vs : List Nat) : List UInt8 := vs.map UInt8.ofNat
theorem number_any (vs : List Nat) (hv : ∀ v ∈ vs, v < 256) (hn : vs.length ≤ 1000) (w : World) :
  Calls Tryz.prog 78 #[.string (strOf (hexT vs))] w fun r w' => ∃ p q s t u : Nat, ev [p, q, s, t, u] = (fbytes (byL vs)).val ∧ Red [p, q, s, t, u] ∧ r = .returned (.agg #[.int .u64 (p : Int), .int .u64 (q : Int), .int .u64 (s : Int), .int .u64 (t : Int), .int .u64 (u : Int)]) ∧ Below w.heap.size w w' := by
 obtain ⟨n, hnn⟩ : ∃ n, n = vs.length := ⟨_, rfl⟩
 have hs0 : (strOf (hexT vs)).size = 2 * n := by rw [strOf_size, hexT_len, hnn]
 have hsz : ((strOf (hexT vs)).size : Int) = 2 * (n : Int) := by rw [hs0]; omega
 have hcut : ∀ (j v : Nat), vs[j]? = some v → ∀ I : Int, I = 2 * (n : Int) - 2 - 2 * (j : Int) → ∀ W, (Instr.sliceAt 9 (.string (strOf (hexT vs))) (some (.int .i64 I)) (some (.int .i64 (I + 2))) none).run Tryz.prog W = .ok (.string (twoB (hxN (v / 16)) (hxN (v % 16)))) W := fun j v hj I hI W => by
  have hjl := (List.getElem?_eq_some_iff.1 hj).1
  have h := run_cutMid (P := Tryz.prog) Tryz.underlying9 (hexT vs) [UInt8.ofNat (hxN (v / 16)), UInt8.ofNat (hxN (v % 16))] (2 * (vs.length - 1 - j)) (2 * (vs.length - 1 - j) + 2) (by omega) (by rw [hexT_len]; omega) (by rw [Nat.add_sub_cancel_left]; exact hexT_at hj) I (I + 2) (by omega) (by omega) W
  rw [h, strOf_eq]
  rfl
 have HCUT := hide hcut
 have HF := hide (fun W B d (hr : Rd W (.slice B n d) 1 n (bvs (byL vs))) => fromE (A := B) (n := n) (c := d) (l := byL vs) (w := W) (by unfold byL; rw [List.length_map, hnn]) (by omega) hr)
 have HN := hide hnn
 have HV := hide hv
 have h0 := (((St.init w NoB).alloc #[.int .u64 0, .int .u64 0, .int .u64 0, .int .u64 0, .int .u64 0] 61).row (Below.refl _ _) (World.ownsRow_nil _ _ 5 1))
 have HS0 := hide h0
 generalize fbytes (byL vs) = X at *
 generalize strOf (hexT vs) = S at *
 rw [← hnn] at hn
 clear hcut hnn hv h0 hs0
 go_enter Tryz.func78, Tryz.ntmps78
 go_wp2_with fail
 go_loopw [3, 4] (fun v i wr => ∃ (j : Nat) (B : Option Addr) (d : Nat) (I : Int), j ≤ n ∧ i = .int .i64 I ∧ v = .slice B j d ∧ Hid (I = 2 * (n : Int) - 2 - 2 * (j : Int)) ∧ Hid (St w NoB wr [.row (.slice B j d) 5 1 j (bvs (byL (vs.take j))), .cells w.heap.size #[.int .u64 0, .int .u64 0, .int .u64 0, .int .u64 0, .int .u64 0] 61])) (fun _ i _ => (2 + intOf i).toNat)
 case atStart => exact ⟨0, none, 0, _, by omega, rfl, rfl, hide (by omega), HS0⟩
 case round =>
  clear HS0
  obtain ⟨j, B, d, I, hj, rfl, rfl, HI, HS⟩ := hrel
  by_cases hlt : j < n
  ·have hd : decide ((0 : Int) ≤ I) = true := by have := HI.out; simp; omega
   have b1 : -2 ≤ I := by have := HI.out; omega
   have b2 : I ≤ 2000 := by have := HI.out; omega
   have b0 : 0 ≤ I := by have := HI.out; omega
   obtain ⟨v, hjv⟩ : ∃ v, vs[j]? = some v := ⟨vs[j]'(by have := HN.out; omega), List.getElem?_eq_getElem _⟩
   have hv256 : v < 256 := HV.out v (List.mem_of_getElem? hjv)
   have hcw := HCUT.out j v hjv I HI.out
   have HC := hide (fun W => parse_hex (v / 16) (v % 16) (by omega) (by omega) W)
   rw [show 16 * (v / 16) + v % 16 = v from by omega] at HC
   generalize twoB (hxN (v / 16)) (hxN (v % 16)) = S2 at *
   have hw8 : IntKind.u8.wrap (v : Int) = (v : Int) := by rw [IntKind.wrap_u8]; omega
   have HT := hide (show byL (vs.take (j + 1)) = byL (vs.take j) ++ [UInt8.ofNat v] from by unfold byL; rw [List.take_add_one, hjv, List.map_append]; rfl)
   have HL := hide hlt
   have HJN := hide hn
   have HV256 := hide hv256
   clear hjv hlt hn hv256
   go_wp2_with (first
    | (go_at_call 120; (with_reducible refine (HC.out _).mono ?_); rintro e w2 ⟨rfl, hb⟩; have HS2 := hide (HS.out.call hb))
    | (at_builtin; refine wl_append1 rfl rfl tyB HS2.out 0 rfl rfl (us := [_]) rfl rfl ?_ ?_ (by decide) ?_; (intro u hu; simp only [List.mem_singleton] at hu; subst hu; rfl); (have := HJN.out; have := HL.out; simp only [List.length_singleton]; omega); intro B3 d3 w3 hS3; have HS3 := hide hS3; clear hS3))
   go_roundw
   case rel =>
    refine ⟨j + 1, B3, d3, I - 2, by have := HL.out; omega, rfl, by simp, hide (by have := HI.out; omega), hide ?_⟩
    have h := HS3.out
    rw [HT.out, bvs_snoc _ _ HV256.out]
    exact h
   case measure => (simp [intOf]); omega
  ·obtain rfl : j = n := by omega
   have hd : decide ((0 : Int) ≤ I) = false := by have := HI.out; simp; omega
   have e : vs.take j = vs := List.take_of_length_le (by have := HN.out; omega)
   rw [e] at HS
   have HFW := hide (fun W (hb : Below wr.heap.size wr W) => HF.out W B d ((HS.out.rd 0 rfl).below hb))
   go_wp2_with (go_at_call 86; (with_reducible refine (HFW.out _ (Below.refl _ _)).mono ?_); rintro r w2 ⟨p, q, s, t, u, hev, hred, rfl, hb2⟩; have hS2 := HS.out.call hb2; have z0 : w2.cell? ⟨w.heap.size, 0, none⟩ = some (.int .u64 0) := hS2.cell 1 rfl 0; have z1 : w2.cell? ⟨w.heap.size, 1, none⟩ = some (.int .u64 0) := hS2.cell 1 rfl 1; have z2 : w2.cell? ⟨w.heap.size, 2, none⟩ = some (.int .u64 0) := hS2.cell 1 rfl 2; have z3 : w2.cell? ⟨w.heap.size, 3, none⟩ = some (.int .u64 0) := hS2.cell 1 rfl 3; have z4 : w2.cell? ⟨w.heap.size, 4, none⟩ = some (.int .u64 0) := hS2.cell 1 rfl 4; have y0 := hS2.free 1 rfl 0; have y1 := hS2.free 1 rfl 1; have y2 := hS2.free 1 rfl 2; have y3 := hS2.free 1 rfl 3; have y4 := hS2.free 1 rfl 4; have HEV := hide hev; have HRD := hide hred; clear hev hred; have HSE := hide hS2)
   have HS9 := hide (((((HSE.out.setCell 1 rfl 0 (.int .u64 (p : Int))).setCell 1 rfl 1 (.int .u64 (q : Int))).setCell 1 rfl 2 (.int .u64 (s : Int))).setCell 1 rfl 3 (.int .u64 (t : Int))).setCell 1 rfl 4 (.int .u64 (u : Int)))
   refine bodyPost_ret (results_cell_row rfl _ _ w.heap.size _ _ _ _ rfl (HS9.out.heap 1 rfl) Tryz.underlying61 rfl (by kernel_rfl)) rfl ?_
   exact ⟨p, q, s, t, u, HEV.out, HRD.out, rfl, HS9.out.below⟩
end Go.Proofs.YtnohmgpmmhlloaaGreatDoor

namespace Go.Proofs.YtnohmgpmmhlloaaGreatDoor
open Go.RowKit

def packN (P : Ed) : Nat := P.y.val + (if P.x.val % 2 = 1 then 2 ^ 255 else 0)
theorem pq_255 : Pq < 2 ^ 255 := by unfold Pq; decide
end Go.Proofs.YtnohmgpmmhlloaaGreatDoor

namespace Go.Proofs.YtnohmgpmmhlloaaGreatDoor
open Go.RowKit

def FromT (w w' : World) (p : Prop) : Prop := Below w.heap.size w w' ∧ p
theorem fromT_refl {w : World} {p : Prop} (h : p) : FromT w w p := ⟨Below.refl _ _, h⟩
theorem fromT_mk {w w' : World} {p : Prop} (hb : Below w.heap.size w w') (h : p) : FromT w w' p := ⟨hb, h⟩

section
variable {P : Program} {ops : Array Oper} {Q : Exit → Act → World → Prop} {md : Region.Mode} {lt : Nat → Bool}

def schedB (md : Region.Mode) (ops : Array Oper) (lt : Nat → Bool) : Bool → List (Nat × Nat) → Array Bool → Bool
 | _, [], listed => (Region.ready md ops listed).isEmpty
 | e, (i, m) :: rest, listed =>
  (match m with
   | 0 => e && (Region.ready md ops listed).contains i && Region.free md ops listed i && lateB md ops lt i && !lt i
   | 1 => (Region.ready md ops listed).contains i && Region.free md ops listed i && !lt i
   | 2 => e && Region.ready md ops listed == [i] && !lt i
   | 3 => e && Region.ready md ops listed == [i] && lt i
   | _ => !e && Region.ready md ops listed == [i]) && schedB md ops lt (e && decide (m < 3)) rest (listed.setIfInBounds i true)

def wpT (P : Program) (ops : Array Oper) (Q : Exit → Act → World → Prop) : List (Nat × Nat) → Act → World → Prop
 | [], a, w => Q .normal a w
 | (i, m) :: rest, a, w => ∃ o, ops[i]? = some o ∧
  if Region.wanted o (yielded ops a.tmps) = true then
   (match m with
    | 0 => ∃ v, (∀ x, From w x → (execOp a.eval o).run P x = .ok (.value v) x) ∧ wpT P ops Q rest (a.put o.dst v) w
    | 1 => ∃ v, (∀ x, (execOp a.eval o).run P x = .ok (.value v) x) ∧ wpT P ops Q rest (a.put o.dst v) w
    | 2 => o.wp P a w (fun a' w' => FromT w w' (wpT P ops Q rest a' w')) Q
    | _ => o.wp P a w (fun a' w' => wpT P ops Q rest a' w') Q)
  else wpT P ops Q rest (a.put o.dst undef) w

theorem wpAny_doneT {listed : Array Bool} {a : Act} {w : World} (hr : Region.ready md ops listed = []) (h : Q .normal a w) :
  ∀ fuel, wpAny P md ops Q fuel listed a w
 | 0 => ⟨hr, h⟩
 | _ + 1 => ⟨fun _ => h, by rw [hr]; simp⟩
theorem wpM_doneT {S : World → Prop} {listed : Array Bool} {a : Act} {w : World} (hr : Region.ready md ops listed = []) (h : Q .normal a w) :
  ∀ fuel, wpM P md ops Q lt fuel S listed a w
 | 0 => ⟨hr, h⟩
 | _ + 1 => ⟨fun _ => h, by rw [hr]; simp⟩

theorem hput (hQ : ∀ c (a : Act) (t : Array Value) w, Q (.panic c) { a with tmps := t } w → Q (.panic c) a w) (o : Oper) (v : Value) : ∀ c (a : Act) w, Q (.panic c) (a.put o.dst v) w → Q (.panic c) a w := by
 intro c a w h
 cases hd : o.dst with
 | none => rw [hd] at h; exact h
 | some d => rw [hd] at h; exact hQ c a _ w h
theorem wpAny_of_T (hs : Region.noSelect ops = true) (hQ : ∀ c (a : Act) (t : Array Value) w, Q (.panic c) { a with tmps := t } w → Q (.panic c) a w) :
  ∀ (order : List (Nat × Nat)) (fuel : Nat) (listed : Array Bool) (a : Act) (w : World), order.length ≤ fuel → schedB md ops lt false order listed = true → wpT P ops Q order a w → wpAny P md ops Q fuel listed a w := by
 intro order
 induction order with
 | nil =>
  intro fuel listed a w _ hb h
  exact wpAny_doneT (by simpa [schedB] using hb) h fuel
 | cons p rest ih =>
  obtain ⟨i, m⟩ := p
  intro fuel listed a w hf hb h
  obtain ⟨fuel, rfl⟩ : ∃ k, fuel = k + 1 := ⟨fuel - 1, by simp at hf; omega⟩
  simp only [List.length_cons, Nat.add_le_add_iff_right] at hf
  obtain ⟨o, ho, h⟩ := h
  unfold schedB at hb
  match m, h, hb with
  | 0, h, hb => simp at hb
  | 2, h, hb => simp at hb
  | 3, h, hb => simp at hb
  | 1, h, hb =>
   simp only [Bool.and_eq_true, Bool.false_and] at hb
   obtain ⟨⟨⟨hr, hfr⟩, _⟩, hb⟩ := hb
   by_cases hw : Region.wanted o (yielded ops a.tmps) = true
   ·rw [if_pos hw] at h
    obtain ⟨v, hv, h⟩ := h
    exact wpAny_first ho (Region.noSelect_spec hs) (hput hQ o _) fuel listed a w (Region.free_spec ho hfr) (by simpa using hr) (.inl ⟨hw, hv⟩) (ih fuel _ _ _ hf hb h)
   ·rw [if_neg hw] at h
    exact wpAny_first ho (Region.noSelect_spec hs) (hput hQ o _) fuel listed a w (Region.free_spec ho hfr) (by simpa using hr) (.inr ⟨by simpa using hw, rfl⟩) (ih fuel _ _ _ hf hb h)
  | m + 4, h, hb =>
   simp only [Bool.and_eq_true, Bool.false_and, beq_iff_eq] at hb
   obtain ⟨⟨_, hr⟩, hb⟩ := hb
   refine wpAny_one hr ho fun K hK => ?_
   by_cases hw : Region.wanted o (yielded ops a.tmps) = true
   ·rw [if_pos hw] at h ⊢
    exact Oper.wp_mono (fun a' w' h' => hK _ _ (ih fuel _ _ _ hf hb h')) h
   ·rw [if_neg hw] at h ⊢
    exact hK _ _ (ih fuel _ _ _ hf hb h)

theorem wpM_of_T (hs : Region.noSelect ops = true) (hQ : ∀ c (a : Act) (t : Array Value) w, Q (.panic c) { a with tmps := t } w → Q (.panic c) a w) :
  ∀ (order : List (Nat × Nat)) (fuel : Nat) (listed : Array Bool) (a : Act) (w : World), order.length ≤ fuel → schedB md ops lt true order listed = true → wpT P ops Q order a w → wpM P md ops Q lt fuel (From w) listed a w := by
 intro order
 induction order with
 | nil =>
  intro fuel listed a w _ hb h
  exact wpM_doneT (by simpa [schedB] using hb) h fuel
 | cons p rest ih =>
  obtain ⟨i, m⟩ := p
  intro fuel listed a w hf hb h
  obtain ⟨fuel, rfl⟩ : ∃ k, fuel = k + 1 := ⟨fuel - 1, by simp at hf; omega⟩
  simp only [List.length_cons, Nat.add_le_add_iff_right] at hf
  obtain ⟨o, ho, h⟩ := h
  unfold schedB at hb
  match m, h, hb with
  | m + 4, h, hb => simp at hb
  | 0, h, hb =>
   simp only [Bool.and_eq_true, Bool.true_and, Bool.not_eq_true'] at hb
   obtain ⟨⟨⟨⟨hr, hfr⟩, hlb⟩, hl⟩, hb⟩ := hb
   by_cases hw : Region.wanted o (yielded ops a.tmps) = true
   ·rw [if_pos hw] at h
    obtain ⟨v, hv, h⟩ := h
    exact wpM_take ho hs hfr hr (hput hQ o _) (From.refl w) hl hlb (.inl ⟨hw, hv⟩) (ih fuel _ _ _ hf hb h)
   ·rw [if_neg hw] at h
    exact wpM_take ho hs hfr hr (hput hQ o _) (From.refl w) hl hlb (.inr ⟨by simpa using hw, rfl⟩) (ih fuel _ _ _ hf hb h)
  | 1, h, hb =>
   simp only [Bool.and_eq_true, Bool.true_and, Bool.not_eq_true'] at hb
   obtain ⟨⟨⟨hr, hfr⟩, hl⟩, hb⟩ := hb
   by_cases hw : Region.wanted o (yielded ops a.tmps) = true
   ·rw [if_pos hw] at h
    obtain ⟨v, hv, h⟩ := h
    exact wpM_takeU ho hs hfr hr (hput hQ o _) (From.refl w) hl (.inl ⟨hw, hv⟩) (ih fuel _ _ _ hf hb h)
   ·rw [if_neg hw] at h
    exact wpM_takeU ho hs hfr hr (hput hQ o _) (From.refl w) hl (.inr ⟨by simpa using hw, rfl⟩) (ih fuel _ _ _ hf hb h)
  | 2, h, hb =>
   simp only [Bool.and_eq_true, Bool.true_and, Bool.not_eq_true', beq_iff_eq] at hb
   obtain ⟨⟨hr, hl⟩, hb⟩ := hb
   refine wpM_one hr ho hl fun K hK => ?_
   by_cases hw : Region.wanted o (yielded ops a.tmps) = true
   ·rw [if_pos hw] at h ⊢
    exact Oper.wp_mono (fun a' w' h' => hK (From w') _ _ (From.next h'.1) (From.refl _) (ih fuel _ _ _ hf hb h'.2)) h
   ·rw [if_neg hw] at h ⊢
    exact hK (From w) _ _ (fun _ h => h) (From.refl _) (ih fuel _ _ _ hf hb h)
  | 3, h, hb =>
   simp only [Bool.and_eq_true, Bool.true_and, beq_iff_eq] at hb
   obtain ⟨⟨hr, hl⟩, hb⟩ := hb
   refine wpM_late hr ho hl fun K hK => ?_
   by_cases hw : Region.wanted o (yielded ops a.tmps) = true
   ·rw [if_pos hw] at h ⊢
    exact Oper.wp_mono (fun a' w' h' => hK _ _ (wpAny_of_T hs hQ rest fuel _ _ _ hf hb h')) h
   ·rw [if_neg hw] at h ⊢
    exact hK _ _ (wpAny_of_T hs hQ rest fuel _ _ _ hf hb h)

def schedAll (ops : Array Oper) (order : List (Nat × Nat)) : Bool :=
 Region.noSelect ops && decide (order.length ≤ ops.size) && schedB .any ops (fun i => order.contains (i, 3)) true order (Array.replicate ops.size false)
theorem wp_region_T {id : Nat} {a : Act} {w : World} (order : List (Nat × Nat)) (hm : P.follows .mixedOrders = true) (hb : schedAll ops order = true) (hQ : ∀ c (a : Act) (t : Array Value) w, Q (.panic c) { a with tmps := t } w → Q (.panic c) a w)
  (h : wpT P ops Q order a w.drew) : (Code.region id ops true).wp P Q a w := by
 unfold schedAll at hb
 simp only [Bool.and_eq_true, decide_eq_true_eq] at hb
 exact wp_region_any hm (wpAny_of_M _ _ _ _ _ (wpM_of_T (lt := fun i => order.contains (i, 3)) hb.1.1 hQ order ops.size _ a w.drew hb.1.2 hb.2 h))

variable {i : Nat} {o : Oper} {rest : List (Nat × Nat)} {a : Act} {w : World} {v : Value}
theorem wpT_nil (h : Q .normal a w) : wpT P ops Q [] a w := h
theorem wpT_skip {m : Nat} (ho : ops[i]? = some o) (hw : Region.wanted o (yielded ops a.tmps) = false) (h : wpT P ops Q rest (a.put o.dst undef) w) : wpT P ops Q ((i, m) :: rest) a w :=
 ⟨o, ho, by rw [if_neg (by rw [hw]; exact Bool.false_ne_true)]; exact h⟩
theorem wpT_pure (ho : ops[i]? = some o) (hw : Region.wanted o (yielded ops a.tmps) = true) (hv : ∀ x, (execOp a.eval o).run P x = .ok (.value v) x) (h : wpT P ops Q rest (a.put o.dst v) w) : wpT P ops Q ((i, 1) :: rest) a w :=
 ⟨o, ho, by rw [if_pos hw]; exact ⟨v, hv, h⟩⟩
theorem wpT_read (ho : ops[i]? = some o) (hw : Region.wanted o (yielded ops a.tmps) = true) (hv : ∀ x, From w x → (execOp a.eval o).run P x = .ok (.value v) x) (h : wpT P ops Q rest (a.put o.dst v) w) : wpT P ops Q ((i, 0) :: rest) a w :=
 ⟨o, ho, by rw [if_pos hw]; exact ⟨v, hv, h⟩⟩
theorem wpT_call (ho : ops[i]? = some o) (hw : Region.wanted o (yielded ops a.tmps) = true) (h : ∀ K : Act → World → Prop, (∀ a' w', FromT w w' (wpT P ops Q rest a' w') → K a' w') → o.wp P a w K Q) : wpT P ops Q ((i, 2) :: rest) a w :=
 ⟨o, ho, by rw [if_pos hw]; exact h _ (fun _ _ h => h)⟩
theorem wpT_late (ho : ops[i]? = some o) (hw : Region.wanted o (yielded ops a.tmps) = true) (h : ∀ K : Act → World → Prop, (∀ a' w', wpT P ops Q rest a' w' → K a' w') → o.wp P a w K Q) : wpT P ops Q ((i, 3) :: rest) a w :=
 ⟨o, ho, by rw [if_pos hw]; exact h _ (fun _ _ h => h)⟩
theorem wpT_any (ho : ops[i]? = some o) (hw : Region.wanted o (yielded ops a.tmps) = true) (h : ∀ K : Act → World → Prop, (∀ a' w', wpT P ops Q rest a' w' → K a' w') → o.wp P a w K Q) : wpT P ops Q ((i, 4) :: rest) a w :=
 ⟨o, ho, by rw [if_pos hw]; exact h _ (fun _ _ h => h)⟩
end

section
variable {P : Program} {α β : Type}
def readB (P : Program) : Sem α → Prop
 | .pure _ => True
 | .load _ _ k => ∀ v, readB P (k v)
 | .program k => readB P (k P)
 | .mark _ k => readB P k
 | .halt _ => True
 | _ => False
theorem readB_bind {s : Sem α} {f : α → Sem β} (h : readB P s) (hf : ∀ v, readB P (f v)) : readB P (s.bind f) := by
 induction s with
 | pure a => exact hf a
 | load m a k ih => exact fun v => ih v (h v)
 | program k ih => exact ih P h
 | mark m k ih => exact ih h
 | halt x => trivial
 | store m a v k ih => exact h.elim
 | new o k ih => exact h.elim
 | shape r k ih => exact h.elim
 | freeze a n k ih => exact h.elim
 | frozen a k ih => exact h.elim
 | getObj r k ih => exact h.elim
 | setObj r o k ih => exact h.elim
 | choose q k ih => exact h.elim
 | sys c k ih => exact h.elim
theorem farLoad_stable {w x : World} (hx : From w x) {a : Addr} {b : Bool} {r : Value × List Addr} (h : w.farLoad P a b = .ok r) : x.cell? a = w.cell? a ∧ x.farLoad P a b = .ok r := by
 unfold World.farLoad at h ⊢
 cases hh : w.heap[a.block]? with
 | none => rw [hh] at h; cases h
 | some ob =>
  have hlt : a.block < w.heap.size := (Array.getElem?_eq_some_iff.1 hh).1
  have he : x.heap[a.block]? = some ob := (hx.block _ hlt).trans hh
  refine ⟨World.cell?_of_block (he.trans hh.symm), ?_⟩
  rw [he]
  rw [hh] at h
  cases ob with
  | view at_ u =>
   simp only at h ⊢
   have key : ∀ r, w.viewLoad P at_ u a b = .ok r → x.viewLoad P at_ u a b = .ok r := by
    intro r hr
    rcases Nat.lt_or_ge at_.block w.heap.size with hl | hl
    ·have e : x.seen P at_ u a b = w.seen P at_ u a b := by unfold World.seen; rw [hx.block _ hl]
     unfold World.viewLoad at hr ⊢
     rw [e]
     exact hr
    ·exfalso
     have hn : w.heap[at_.block]? = none := Array.getElem?_eq_none hl
     have : ∃ e, w.seen P at_ u a b = .error e := by
      unfold World.seen
      rw [hn]
      simp only [bind, Except.bind, throw, throwThe, MonadExceptOf.throw, pure, Except.pure]
      repeat' split
      all_goals first | exact ⟨_, rfl⟩ | (rename_i h0; simp at h0)
     obtain ⟨e, he⟩ := this
     unfold World.viewLoad at hr
     rw [he] at hr
     cases hr
   cases hv : w.viewLoad P at_ u a b with
   | error e => rw [hv] at h; cases h
   | ok r' => rw [hv] at h; rw [key r' hv]; exact h
  | _ => cases h
theorem readB_run : ∀ (s : Sem α), readB P s → ∀ {w w' : World} {v : α}, s.run P w = .ok v w' → w' = w ∧ ∀ x, From w x → s.run P x = .ok v x := by
 intro s
 induction s with
 | pure a => intro _ w w' v h; injection h with h1 h2; exact ⟨h2.symm, fun x _ => by rw [← h1]; rfl⟩
 | load m a k ih =>
  intro hr w w' v h
  unfold Sem.run at h
  cases hc : w.cell? a with
  | some u =>
   rw [hc] at h
   obtain ⟨e, hx⟩ := ih u (hr u) h
   refine ⟨e, fun x hf => ?_⟩
   unfold Sem.run
   rw [hf.cell (block_lt_of_cell hc), hc]
   exact hx x hf
  | none =>
   rw [hc] at h
   simp only at h
   cases hl : w.farLoad P a (m == .atomic) with
   | error e => rw [hl] at h; cases h
   | ok r =>
    obtain ⟨u, l⟩ := r
    rw [hl] at h
    obtain ⟨e, hx⟩ := ih u (hr u) h
    refine ⟨e, fun x hf => ?_⟩
    obtain ⟨h1, h2⟩ := farLoad_stable hf hl
    unfold Sem.run
    rw [h1, hc]
    simp only
    rw [h2]
    exact hx x hf
 | program k ih => intro hr w w' v h; exact ih P hr h
 | mark m k ih => intro hr w w' v h; exact ih hr h
 | halt e => intro _ w w' v h; cases h
 | store m a v k ih => intro hr; exact hr.elim
 | new o k ih => intro hr; exact hr.elim
 | shape r k ih => intro hr; exact hr.elim
 | freeze a n k ih => intro hr; exact hr.elim
 | frozen a k ih => intro hr; exact hr.elim
 | getObj r k ih => intro hr; exact hr.elim
 | setObj r o k ih => intro hr; exact hr.elim
 | choose q k ih => intro hr; exact hr.elim
 | sys c k ih => intro hr; exact hr.elim
theorem readB_bind' {s : Sem α} {f : α → Sem β} (h : readB P s) (hf : ∀ v, readB P (f v)) : readB P (s >>= f) := readB_bind h hf
theorem readB_underlying (t : TypeId) : readB P (underlying t) := by
 unfold underlying
 refine readB_bind' (s := program) (by trivial) fun p => ?_
 cases p.underlying t <;> trivial
theorem readB_typeInfo (t : TypeId) : readB P (typeInfo t) := by
 unfold typeInfo
 refine readB_bind' (s := program) (by trivial) fun p => ?_
 cases p.info? t <;> trivial
theorem readB_sizeOf (t : TypeId) : readB P (sizeOf t) := readB_bind' (readB_typeInfo t) fun _ => trivial
theorem readB_cells (a : Addr) : ∀ (n i : Nat) (acc : Array Value), readB P (loadCellsFrom a i n acc)
 | 0, _, _ => trivial
 | n + 1, i, acc => readB_bind' (s := load (a.add i)) (fun _ => trivial) fun v => readB_cells a n (i + 1) (acc.push v)
theorem readB_loadVar (t : TypeId) (a : Addr) : readB P (loadVar t a) := by
 unfold loadVar
 refine readB_bind' (s := isAgg t) ?_ fun b => ?_
 ·unfold isAgg
  refine readB_bind' (readB_underlying t) fun d => ?_
  cases d <;> trivial
 ·cases b
  ·exact fun _ => trivial
  ·exact readB_bind' (readB_sizeOf t) fun n => readB_bind' (s := loadCells a n) (readB_cells a n 0 #[]) fun _ => trivial
theorem readB_loadAt (t : TypeId) (p : Value) : readB P (Instr.loadAt t p) := by
 unfold Instr.loadAt
 refine readB_bind' (s := Instr.sureAddr p) ?_ fun a => readB_loadVar t a
 unfold Instr.sureAddr
 split <;> trivial
end
section
variable {P : Program} {ops : Array Oper} {Q : Exit → Act → World → Prop} {i : Nat} {o : Oper} {rest : List (Nat × Nat)} {a : Act} {w : World} {v : Value}
theorem wpT_load {t : TypeId} {x : Operand} (ho : ops[i]? = some o) (hop : o.op = .load t x) (hw : Region.wanted o (yielded ops a.tmps) = true) (hv : (execOp a.eval o).run P w = .ok (.value v) w) (h : wpT P ops Q rest (a.put o.dst v) w) : wpT P ops Q ((i, 0) :: rest) a w := by
 refine wpT_read ho hw (fun y hy => ?_) h
 have hr : readB P (execOp a.eval o) := by
  unfold execOp
  rw [hop]
  exact readB_bind' (readB_loadAt t _) fun _ => trivial
 exact (readB_run _ hr hv).2 y hy
end
end Go.Proofs.YtnohmgpmmhlloaaGreatDoor

namespace Go.Proofs.YtnohmgpmmhlloaaGreatDoor
open Go.RowKit

section
variable {P : Program} {ops : Array Oper} {Q : Exit → Act → World → Prop} {i : Nat} {o : Oper} {rest : List (Nat × Nat)} {a : Act} {w0 w : World} {M : Nat → Prop} {H : List Chunk}
theorem wpT_callF {f : FuncId} {xs : List Operand} {ts : Array TypeId} {vs : List Value} {R : Ending → World → Prop} (ho : ops[i]? = some o) (hw : Region.wanted o (yielded ops a.tmps) = true)
  (hop : o.op = .call { callee := .value (.func f), args := xs.toArray, argTypes := ts }) (hf : ∀ (args : Array Value) (w : World), (callFunc f args).run P w = .ok (.enter f args) w)
  (hx : xs.map a.eval = vs) (hc : Calls P f vs.toArray w R) (h : ∀ e w', R e w' → ∃ v, e = .returned v ∧ Below w.heap.size w w' ∧ wpT P ops Q rest (a.put o.dst v) w') : wpT P ops Q ((i, 2) :: rest) a w :=
 wpT_call ho hw fun K hK => wp_call hop hf hx hc fun e w' hr => by
  obtain ⟨v, he, hb, hk⟩ := h e w' hr
  exact ⟨v, he, hK _ _ ⟨hb, hk⟩⟩
end
end Go.Proofs.YtnohmgpmmhlloaaGreatDoor

namespace Go.Proofs.YtnohmgpmmhlloaaGreatDoor
open Go.RowKit

inductive STr where
 | nil
 | op (i m : Nat) (r : STr)
 | two (i j : Nat) (r s : STr)
 | three (i j k : Nat) (r s t : STr)
def STr.len : STr → Nat
 | .nil => 0
 | .op _ _ r => r.len + 1
 | .two _ _ r s => max r.len s.len + 1
 | .three _ _ _ r s t => max r.len (max s.len t.len) + 1

section
variable {P : Program} {ops : Array Oper} {Q : Exit → Act → World → Prop} {md : Region.Mode} {lt : Nat → Bool} {W : World}

def schedS (md : Region.Mode) (ops : Array Oper) (lt : Nat → Bool) : Bool → STr → Array Bool → Bool
 | _, .nil, listed => (Region.ready md ops listed).isEmpty
 | e, .op i m rest, listed =>
  (match m with
   | 0 => e && (Region.ready md ops listed).contains i && Region.free md ops listed i && lateB md ops lt i && !lt i
   | 1 => (Region.ready md ops listed).contains i && Region.free md ops listed i && !lt i
   | 2 => e && Region.ready md ops listed == [i] && !lt i
   | 3 => e && Region.ready md ops listed == [i] && lt i
   | _ => !e && Region.ready md ops listed == [i]) && schedS md ops lt (e && decide (m < 3)) rest (listed.setIfInBounds i true)
 | e, .two i j r s, listed => e && Region.ready md ops listed == [i, j] && !lt i && !lt j && schedS md ops lt e r (listed.setIfInBounds i true) && schedS md ops lt e s (listed.setIfInBounds j true)
 | e, .three i j k r s t, listed => e && Region.ready md ops listed == [i, j, k] && !lt i && !lt j && !lt k && schedS md ops lt e r (listed.setIfInBounds i true) && schedS md ops lt e s (listed.setIfInBounds j true) && schedS md ops lt e t (listed.setIfInBounds k true)

def wpS (P : Program) (ops : Array Oper) (Q : Exit → Act → World → Prop) (W : World) : STr → Act → World → Prop
 | .nil, a, w => Q .normal a w
 | .op i m rest, a, w => ∃ o, ops[i]? = some o ∧
  if Region.wanted o (yielded ops a.tmps) = true then
   (match m with
    | 0 => ∃ v, (∀ x, From W x → (execOp a.eval o).run P x = .ok (.value v) x) ∧ wpS P ops Q W rest (a.put o.dst v) w
    | 1 => ∃ v, (∀ x, (execOp a.eval o).run P x = .ok (.value v) x) ∧ wpS P ops Q W rest (a.put o.dst v) w
    | 2 => o.wp P a w (fun a' w' => FromT W w' (wpS P ops Q W rest a' w')) Q
    | _ => o.wp P a w (fun a' w' => wpS P ops Q W rest a' w') Q)
  else wpS P ops Q W rest (a.put o.dst undef) w
 | .two i j r s, a, w =>
  (∃ o, ops[i]? = some o ∧ if Region.wanted o (yielded ops a.tmps) = true then o.wp P a w (fun a' w' => FromT W w' (wpS P ops Q W r a' w')) Q else wpS P ops Q W r (a.put o.dst undef) w) ∧
  (∃ o, ops[j]? = some o ∧ if Region.wanted o (yielded ops a.tmps) = true then o.wp P a w (fun a' w' => FromT W w' (wpS P ops Q W s a' w')) Q else wpS P ops Q W s (a.put o.dst undef) w)
 | .three i j k r s t, a, w =>
  (∃ o, ops[i]? = some o ∧ if Region.wanted o (yielded ops a.tmps) = true then o.wp P a w (fun a' w' => FromT W w' (wpS P ops Q W r a' w')) Q else wpS P ops Q W r (a.put o.dst undef) w) ∧
  (∃ o, ops[j]? = some o ∧ if Region.wanted o (yielded ops a.tmps) = true then o.wp P a w (fun a' w' => FromT W w' (wpS P ops Q W s a' w')) Q else wpS P ops Q W s (a.put o.dst undef) w) ∧
  (∃ o, ops[k]? = some o ∧ if Region.wanted o (yielded ops a.tmps) = true then o.wp P a w (fun a' w' => FromT W w' (wpS P ops Q W t a' w')) Q else wpS P ops Q W t (a.put o.dst undef) w)

theorem wpAny_of_S (hs : Region.noSelect ops = true) (hQ : ∀ c (a : Act) (t : Array Value) w, Q (.panic c) { a with tmps := t } w → Q (.panic c) a w) :
  ∀ (tr : STr) (fuel : Nat) (listed : Array Bool) (a : Act) (w : World), tr.len ≤ fuel → schedS md ops lt false tr listed = true → wpS P ops Q W tr a w → wpAny P md ops Q fuel listed a w := by
 intro tr
 induction tr with
 | nil =>
  intro fuel listed a w _ hb h
  exact wpAny_doneT (by simpa [schedS] using hb) h fuel
 | two i j r s _ _ =>
  intro fuel listed a w _ hb h
  simp [schedS] at hb
 | three i j k r s t _ _ _ =>
  intro fuel listed a w _ hb h
  simp [schedS] at hb
 | op i m rest ih =>
  intro fuel listed a w hf hb h
  obtain ⟨fuel, rfl⟩ : ∃ k, fuel = k + 1 := ⟨fuel - 1, by simp [STr.len] at hf; omega⟩
  simp only [STr.len, Nat.add_le_add_iff_right] at hf
  obtain ⟨o, ho, h⟩ := h
  unfold schedS at hb
  match m, h, hb with
  | 0, h, hb => simp at hb
  | 2, h, hb => simp at hb
  | 3, h, hb => simp at hb
  | 1, h, hb =>
   simp only [Bool.and_eq_true, Bool.false_and] at hb
   obtain ⟨⟨⟨hr, hfr⟩, _⟩, hb⟩ := hb
   by_cases hw : Region.wanted o (yielded ops a.tmps) = true
   ·rw [if_pos hw] at h
    obtain ⟨v, hv, h⟩ := h
    exact wpAny_first ho (Region.noSelect_spec hs) (hput hQ o _) fuel listed a w (Region.free_spec ho hfr) (by simpa using hr) (.inl ⟨hw, hv⟩) (ih fuel _ _ _ hf hb h)
   ·rw [if_neg hw] at h
    exact wpAny_first ho (Region.noSelect_spec hs) (hput hQ o _) fuel listed a w (Region.free_spec ho hfr) (by simpa using hr) (.inr ⟨by simpa using hw, rfl⟩) (ih fuel _ _ _ hf hb h)
  | m + 4, h, hb =>
   simp only [Bool.and_eq_true, Bool.false_and, beq_iff_eq] at hb
   obtain ⟨⟨_, hr⟩, hb⟩ := hb
   refine wpAny_one hr ho fun K hK => ?_
   by_cases hw : Region.wanted o (yielded ops a.tmps) = true
   ·rw [if_pos hw] at h ⊢
    exact Oper.wp_mono (fun a' w' h' => hK _ _ (ih fuel _ _ _ hf hb h')) h
   ·rw [if_neg hw] at h ⊢
    exact hK _ _ (ih fuel _ _ _ hf hb h)

theorem wpM_three {i j k : Nat} {oi oj ok : Oper} {fuel : Nat} {S : World → Prop} {listed : Array Bool} {a : Act} {w : World} (hr : Region.ready md ops listed = [i, j, k]) (hi : ops[i]? = some oi) (hj : ops[j]? = some oj) (hk : ops[k]? = some ok) (hli : lt i = false) (hlj : lt j = false) (hlk : lt k = false)
  (h1 : ∀ K : Act → World → Prop, (∀ (S' : World → Prop) a' w', (∀ x, S' x → S x) → S' w' → wpM P md ops Q lt fuel S' (listed.setIfInBounds i true) a' w' → K a' w') →
   if Region.wanted oi (yielded ops a.tmps) = true then oi.wp P a w K Q else K (a.put oi.dst undef) w)
  (h2 : ∀ K : Act → World → Prop, (∀ (S' : World → Prop) a' w', (∀ x, S' x → S x) → S' w' → wpM P md ops Q lt fuel S' (listed.setIfInBounds j true) a' w' → K a' w') →
   if Region.wanted oj (yielded ops a.tmps) = true then oj.wp P a w K Q else K (a.put oj.dst undef) w)
  (h3 : ∀ K : Act → World → Prop, (∀ (S' : World → Prop) a' w', (∀ x, S' x → S x) → S' w' → wpM P md ops Q lt fuel S' (listed.setIfInBounds k true) a' w' → K a' w') →
   if Region.wanted ok (yielded ops a.tmps) = true then ok.wp P a w K Q else K (a.put ok.dst undef) w) : wpM P md ops Q lt (fuel + 1) S listed a w := by
 refine ⟨(fun h0 => by rw [h0] at hr; cases hr), fun m hm => ?_⟩
 rw [hr] at hm
 have key : ∀ (k : Nat) (ok : Oper), ops[k]? = some ok → lt k = false → (∀ K : Act → World → Prop, (∀ (S' : World → Prop) a' w', (∀ x, S' x → S x) → S' w' → wpM P md ops Q lt fuel S' (listed.setIfInBounds k true) a' w' → K a' w') →
   if Region.wanted ok (yielded ops a.tmps) = true then ok.wp P a w K Q else K (a.put ok.dst undef) w) →
   wpOp P ops Q k (fun a' w' => (lt k = true ∧ wpAny P md ops Q fuel (listed.setIfInBounds k true) a' w') ∨ (lt k = false ∧ ∃ S' : World → Prop, (∀ x, S' x → S x) ∧ S' w' ∧ wpM P md ops Q lt fuel S' (listed.setIfInBounds k true) a' w')) a w := by
  intro k ok hk hl h
  have h1 := h (fun a' w' => (lt k = true ∧ wpAny P md ops Q fuel (listed.setIfInBounds k true) a' w') ∨ (lt k = false ∧ ∃ S' : World → Prop, (∀ x, S' x → S x) ∧ S' w' ∧ wpM P md ops Q lt fuel S' (listed.setIfInBounds k true) a' w')) (fun S' a' w' k1 k2 k3 => .inr ⟨hl, S', k1, k2, k3⟩)
  unfold wpOp
  simp only [hk]
  split
  ·rename_i hw
   rw [if_pos hw] at h1
   exact .inl h1
  ·rename_i hw
   rw [if_neg hw] at h1
   exact h1
 rcases List.mem_cons.1 hm with rfl | hm
 ·exact key _ _ hi hli h1
 ·rcases List.mem_cons.1 hm with rfl | hm
  ·exact key _ _ hj hlj h2
  ·obtain rfl := List.mem_singleton.1 hm
   exact key _ _ hk hlk h3

theorem wpM_of_S (hs : Region.noSelect ops = true) (hQ : ∀ c (a : Act) (t : Array Value) w, Q (.panic c) { a with tmps := t } w → Q (.panic c) a w) :
  ∀ (tr : STr) (fuel : Nat) (listed : Array Bool) (a : Act) (w : World), From W w → tr.len ≤ fuel → schedS md ops lt true tr listed = true → wpS P ops Q W tr a w → wpM P md ops Q lt fuel (From W) listed a w := by
 intro tr
 induction tr with
 | nil =>
  intro fuel listed a w _ _ hb h
  exact wpM_doneT (by simpa [schedS] using hb) h fuel
 | two i j r s ihr ihs =>
  intro fuel listed a w hW hf hb h
  obtain ⟨fuel, rfl⟩ : ∃ k, fuel = k + 1 := ⟨fuel - 1, by simp [STr.len] at hf; omega⟩
  simp only [STr.len, Nat.add_le_add_iff_right] at hf
  unfold schedS at hb
  simp only [Bool.and_eq_true, Bool.true_and, Bool.not_eq_true', beq_iff_eq] at hb
  obtain ⟨⟨⟨⟨hr, hli⟩, hlj⟩, hbr⟩, hbs⟩ := hb
  obtain ⟨⟨oi, hoi, h1⟩, ⟨oj, hoj, h2⟩⟩ := h
  refine wpM_two hr hoi hoj hli hlj (fun K hK => ?_) (fun K hK => ?_)
  ·by_cases hw : Region.wanted oi (yielded ops a.tmps) = true
   ·rw [if_pos hw] at h1 ⊢
    exact Oper.wp_mono (fun a' w' h' => hK (From W) _ _ (fun _ h => h) h'.1 (ihr fuel _ _ _ h'.1 (by omega) hbr h'.2)) h1
   ·rw [if_neg hw] at h1 ⊢
    exact hK (From W) _ _ (fun _ h => h) hW (ihr fuel _ _ _ hW (by omega) hbr h1)
  ·by_cases hw : Region.wanted oj (yielded ops a.tmps) = true
   ·rw [if_pos hw] at h2 ⊢
    exact Oper.wp_mono (fun a' w' h' => hK (From W) _ _ (fun _ h => h) h'.1 (ihs fuel _ _ _ h'.1 (by omega) hbs h'.2)) h2
   ·rw [if_neg hw] at h2 ⊢
    exact hK (From W) _ _ (fun _ h => h) hW (ihs fuel _ _ _ hW (by omega) hbs h2)
 | three i j k r s t ihr ihs iht =>
  intro fuel listed a w hW hf hb h
  obtain ⟨fuel, rfl⟩ : ∃ k, fuel = k + 1 := ⟨fuel - 1, by simp [STr.len] at hf; omega⟩
  simp only [STr.len, Nat.add_le_add_iff_right] at hf
  unfold schedS at hb
  simp only [Bool.and_eq_true, Bool.true_and, Bool.not_eq_true', beq_iff_eq] at hb
  obtain ⟨⟨⟨⟨⟨⟨hr, hli⟩, hlj⟩, hlk⟩, hbr⟩, hbs⟩, hbt⟩ := hb
  obtain ⟨⟨oi, hoi, h1⟩, ⟨oj, hoj, h2⟩, ⟨ok, hok, h3⟩⟩ := h
  refine wpM_three hr hoi hoj hok hli hlj hlk (fun K hK => ?_) (fun K hK => ?_) (fun K hK => ?_)
  ·by_cases hw : Region.wanted oi (yielded ops a.tmps) = true
   ·rw [if_pos hw] at h1 ⊢
    exact Oper.wp_mono (fun a' w' h' => hK (From W) _ _ (fun _ h => h) h'.1 (ihr fuel _ _ _ h'.1 (by omega) hbr h'.2)) h1
   ·rw [if_neg hw] at h1 ⊢
    exact hK (From W) _ _ (fun _ h => h) hW (ihr fuel _ _ _ hW (by omega) hbr h1)
  ·by_cases hw : Region.wanted oj (yielded ops a.tmps) = true
   ·rw [if_pos hw] at h2 ⊢
    exact Oper.wp_mono (fun a' w' h' => hK (From W) _ _ (fun _ h => h) h'.1 (ihs fuel _ _ _ h'.1 (by omega) hbs h'.2)) h2
   ·rw [if_neg hw] at h2 ⊢
    exact hK (From W) _ _ (fun _ h => h) hW (ihs fuel _ _ _ hW (by omega) hbs h2)
  ·by_cases hw : Region.wanted ok (yielded ops a.tmps) = true
   ·rw [if_pos hw] at h3 ⊢
    exact Oper.wp_mono (fun a' w' h' => hK (From W) _ _ (fun _ h => h) h'.1 (iht fuel _ _ _ h'.1 (by omega) hbt h'.2)) h3
   ·rw [if_neg hw] at h3 ⊢
    exact hK (From W) _ _ (fun _ h => h) hW (iht fuel _ _ _ hW (by omega) hbt h3)
 | op i m rest ih =>
  intro fuel listed a w hW hf hb h
  obtain ⟨fuel, rfl⟩ : ∃ k, fuel = k + 1 := ⟨fuel - 1, by simp [STr.len] at hf; omega⟩
  simp only [STr.len, Nat.add_le_add_iff_right] at hf
  obtain ⟨o, ho, h⟩ := h
  unfold schedS at hb
  match m, h, hb with
  | m + 4, h, hb => simp at hb
  | 0, h, hb =>
   simp only [Bool.and_eq_true, Bool.true_and, Bool.not_eq_true'] at hb
   obtain ⟨⟨⟨⟨hr, hfr⟩, hlb⟩, hl⟩, hb⟩ := hb
   by_cases hw : Region.wanted o (yielded ops a.tmps) = true
   ·rw [if_pos hw] at h
    obtain ⟨v, hv, h⟩ := h
    exact wpM_take ho hs hfr hr (hput hQ o _) hW hl hlb (.inl ⟨hw, hv⟩) (ih fuel _ _ _ hW hf hb h)
   ·rw [if_neg hw] at h
    exact wpM_take ho hs hfr hr (hput hQ o _) hW hl hlb (.inr ⟨by simpa using hw, rfl⟩) (ih fuel _ _ _ hW hf hb h)
  | 1, h, hb =>
   simp only [Bool.and_eq_true, Bool.true_and, Bool.not_eq_true'] at hb
   obtain ⟨⟨⟨hr, hfr⟩, hl⟩, hb⟩ := hb
   by_cases hw : Region.wanted o (yielded ops a.tmps) = true
   ·rw [if_pos hw] at h
    obtain ⟨v, hv, h⟩ := h
    exact wpM_takeU ho hs hfr hr (hput hQ o _) hW hl (.inl ⟨hw, hv⟩) (ih fuel _ _ _ hW hf hb h)
   ·rw [if_neg hw] at h
    exact wpM_takeU ho hs hfr hr (hput hQ o _) hW hl (.inr ⟨by simpa using hw, rfl⟩) (ih fuel _ _ _ hW hf hb h)
  | 2, h, hb =>
   simp only [Bool.and_eq_true, Bool.true_and, Bool.not_eq_true', beq_iff_eq] at hb
   obtain ⟨⟨hr, hl⟩, hb⟩ := hb
   refine wpM_one hr ho hl fun K hK => ?_
   by_cases hw : Region.wanted o (yielded ops a.tmps) = true
   ·rw [if_pos hw] at h ⊢
    exact Oper.wp_mono (fun a' w' h' => hK (From W) _ _ (fun _ h => h) h'.1 (ih fuel _ _ _ h'.1 hf hb h'.2)) h
   ·rw [if_neg hw] at h ⊢
    exact hK (From W) _ _ (fun _ h => h) hW (ih fuel _ _ _ hW hf hb h)
  | 3, h, hb =>
   simp only [Bool.and_eq_true, Bool.true_and, beq_iff_eq] at hb
   obtain ⟨⟨hr, hl⟩, hb⟩ := hb
   refine wpM_late hr ho hl fun K hK => ?_
   by_cases hw : Region.wanted o (yielded ops a.tmps) = true
   ·rw [if_pos hw] at h ⊢
    exact Oper.wp_mono (fun a' w' h' => hK _ _ (wpAny_of_S hs hQ rest fuel _ _ _ hf hb h')) h
   ·rw [if_neg hw] at h ⊢
    exact hK _ _ (wpAny_of_S hs hQ rest fuel _ _ _ hf hb h)

def STr.late : STr → List Nat
 | .nil => []
 | .op i m r => if m = 3 then i :: r.late else r.late
 | .two _ _ r s => r.late ++ s.late
 | .three _ _ _ r s t => r.late ++ (s.late ++ t.late)
def schedTr (ops : Array Oper) (tr : STr) : Bool :=
 Region.noSelect ops && decide (tr.len ≤ ops.size) && schedS .any ops (fun i => tr.late.contains i) true tr (Array.replicate ops.size false)
theorem wp_region_S {id : Nat} {a : Act} {w : World} (tr : STr) (hm : P.follows .mixedOrders = true) (hb : schedTr ops tr = true) (hQ : ∀ c (a : Act) (t : Array Value) w, Q (.panic c) { a with tmps := t } w → Q (.panic c) a w)
  (h : wpS P ops Q w.drew tr a w.drew) : (Code.region id ops true).wp P Q a w := by
 unfold schedTr at hb
 simp only [Bool.and_eq_true, decide_eq_true_eq] at hb
 exact wp_region_any hm (wpAny_of_M _ _ _ _ _ (wpM_of_S (lt := fun i => tr.late.contains i) hb.1.1 hQ tr ops.size _ a w.drew (From.refl _) hb.1.2 hb.2 h))

variable {i j : Nat} {o : Oper} {rest r s : STr} {a : Act} {w : World} {v : Value}
theorem wpS_nil (h : Q .normal a w) : wpS P ops Q W .nil a w := h
theorem wpS_skip {m : Nat} (ho : ops[i]? = some o) (hw : Region.wanted o (yielded ops a.tmps) = false) (h : wpS P ops Q W rest (a.put o.dst undef) w) : wpS P ops Q W (.op i m rest) a w :=
 ⟨o, ho, by rw [if_neg (by rw [hw]; exact Bool.false_ne_true)]; exact h⟩
theorem wpS_pure (ho : ops[i]? = some o) (hw : Region.wanted o (yielded ops a.tmps) = true) (hv : ∀ x, (execOp a.eval o).run P x = .ok (.value v) x) (h : wpS P ops Q W rest (a.put o.dst v) w) : wpS P ops Q W (.op i 1 rest) a w :=
 ⟨o, ho, by rw [if_pos hw]; exact ⟨v, hv, h⟩⟩
theorem wpS_read (ho : ops[i]? = some o) (hw : Region.wanted o (yielded ops a.tmps) = true) (hv : ∀ x, From W x → (execOp a.eval o).run P x = .ok (.value v) x) (h : wpS P ops Q W rest (a.put o.dst v) w) : wpS P ops Q W (.op i 0 rest) a w :=
 ⟨o, ho, by rw [if_pos hw]; exact ⟨v, hv, h⟩⟩
theorem wpS_call (ho : ops[i]? = some o) (hw : Region.wanted o (yielded ops a.tmps) = true) (h : ∀ K : Act → World → Prop, (∀ a' w', FromT W w' (wpS P ops Q W rest a' w') → K a' w') → o.wp P a w K Q) : wpS P ops Q W (.op i 2 rest) a w :=
 ⟨o, ho, by rw [if_pos hw]; exact h _ (fun _ _ h => h)⟩
theorem wpS_late (ho : ops[i]? = some o) (hw : Region.wanted o (yielded ops a.tmps) = true) (h : ∀ K : Act → World → Prop, (∀ a' w', wpS P ops Q W rest a' w' → K a' w') → o.wp P a w K Q) : wpS P ops Q W (.op i 3 rest) a w :=
 ⟨o, ho, by rw [if_pos hw]; exact h _ (fun _ _ h => h)⟩
theorem wpS_any (ho : ops[i]? = some o) (hw : Region.wanted o (yielded ops a.tmps) = true) (h : ∀ K : Act → World → Prop, (∀ a' w', wpS P ops Q W rest a' w' → K a' w') → o.wp P a w K Q) : wpS P ops Q W (.op i 4 rest) a w :=
 ⟨o, ho, by rw [if_pos hw]; exact h _ (fun _ _ h => h)⟩
theorem wpS_load {t : TypeId} {x : Operand} (ho : ops[i]? = some o) (hop : o.op = .load t x) (hw : Region.wanted o (yielded ops a.tmps) = true) (hv : (execOp a.eval o).run P W = .ok (.value v) W) (h : wpS P ops Q W rest (a.put o.dst v) w) : wpS P ops Q W (.op i 0 rest) a w := by
 refine wpS_read ho hw (fun y hy => ?_) h
 have hr : readB P (execOp a.eval o) := by
  unfold execOp
  rw [hop]
  exact readB_bind' (readB_loadAt t _) fun _ => trivial
 exact (readB_run _ hr hv).2 y hy
end
end Go.Proofs.YtnohmgpmmhlloaaGreatDoor

namespace Go.Proofs.YtnohmgpmmhlloaaGreatDoor
open Go.RowKit

section
variable {P : Program} {ops : Array Oper} {Q : Exit → Act → World → Prop} {md : Region.Mode} {lt : Nat → Bool}

def dstOf (ops : Array Oper) (i : Nat) : Option Tmp := (ops[i]?).bind (·.dst)
def putsG (ops : Array Oper) (G : Nat → Nat) (ds : List Nat) (a : Act) : Act := ds.foldl (fun a i => a.put (dstOf ops i) (.pointer (some ⟨G i, 0, none⟩))) a
theorem putsG_cons (G : Nat → Nat) (i : Nat) (ds : List Nat) (a : Act) : putsG ops G (i :: ds) a = putsG ops G ds (a.put (dstOf ops i) (.pointer (some ⟨G i, 0, none⟩))) := rfl
theorem putsG_congr {G G' : Nat → Nat} : ∀ {ds : List Nat} {a : Act}, (∀ i ∈ ds, G i = G' i) → putsG ops G ds a = putsG ops G' ds a
 | [], _, _ => rfl
 | i :: ds, a, h => by
  rw [putsG_cons, putsG_cons, h i (List.mem_cons_self ..)]
  exact putsG_congr fun j hj => h j (List.mem_cons_of_mem _ hj)
theorem putsG_put (G : Nat → Nat) (t : Option Tmp) (v : Value) : ∀ (ds : List Nat) (a : Act), (∀ i ∈ ds, ∀ d, dstOf ops i = some d → t ≠ some d) → (putsG ops G ds a).put t v = putsG ops G ds (a.put t v)
 | [], _, _ => rfl
 | i :: ds, a, h => by
  rw [putsG_cons, putsG_cons, putsG_put G t v ds _ fun j hj => h j (List.mem_cons_of_mem _ hj)]
  rw [Act.put_comm a _ v (h i (List.mem_cons_self ..))]
def setAll (l : Array Bool) (ds : List Nat) : Array Bool := ds.foldl (fun l i => l.setIfInBounds i true) l
theorem setAll_cons (l : Array Bool) (i : Nat) (ds : List Nat) : setAll l (i :: ds) = setAll (l.setIfInBounds i true) ds := rfl
theorem set_comm (l : Array Bool) (i j : Nat) : (l.setIfInBounds i true).setIfInBounds j true = (l.setIfInBounds j true).setIfInBounds i true := by
 by_cases h : i = j
 ·rw [h]
 ·rw [Array.setIfInBounds_comm _ _ h]
theorem setAll_set (i : Nat) : ∀ (ds : List Nat) (l : Array Bool), (setAll l ds).setIfInBounds i true = setAll (l.setIfInBounds i true) ds
 | [], _ => rfl
 | j :: ds, l => by rw [setAll_cons, setAll_cons, setAll_set i ds, set_comm]
theorem set_getD (l : Array Bool) (i j : Nat) (d : Bool) : (l.setIfInBounds i true).getD j d = if i = j ∧ j < l.size then true else l.getD j d := by
 simp only [Array.getD_eq_getD_getElem?, Array.getElem?_setIfInBounds]
 by_cases h : i = j
 ·subst h
  by_cases h2 : i < l.size
  ·simp [h2]
  ·simp [h2]
 ·simp [h]
theorem setAll_getD (d : Bool) (j : Nat) : ∀ (ds : List Nat) (l : Array Bool), (setAll l ds).getD j d = if j ∈ ds ∧ j < l.size then true else l.getD j d
 | [], l => by simp [setAll]
 | i :: ds, l => by
  rw [setAll_cons, setAll_getD d j ds, set_getD, Array.size_setIfInBounds]
  by_cases h1 : j ∈ ds ∧ j < l.size
  ·rw [if_pos h1, if_pos ⟨List.mem_cons_of_mem _ h1.1, h1.2⟩]
  ·rw [if_neg h1]
   by_cases h2 : i = j ∧ j < l.size
   ·rw [if_pos h2, if_pos ⟨by rw [h2.1]; exact List.mem_cons_self .., h2.2⟩]
   ·rw [if_neg h2, if_neg fun h => ?_]
    rcases List.mem_cons.1 h.1 with e | e
    ·exact h2 ⟨e.symm, h.2⟩
    ·exact h1 ⟨e, h.2⟩

theorem wp_put1 {o : Oper} {a : Act} {d : Option Tmp} {v : Value} {x : World} {K : Act → World → Prop} (hs : ∀ cs b, o.op ≠ .select cs b) (h1 : ∀ t, d = some t → t ∉ o.looksAt ops) (h2 : ∀ t, d = some t → o.dst ≠ some t)
  (hQ : ∀ c (a : Act) (t : Array Value) w, Q (.panic c) { a with tmps := t } w → Q (.panic c) a w) (h : o.wp P a x K Q) : o.wp P (a.put d v) x (fun a'' w' => ∃ a', a'' = a'.put d v ∧ K a' w') Q := by
 have hp : ∀ c w, Q (.panic c) a w → Q (.panic c) (a.put d v) w := fun c w h => by
  refine hQ c _ a.tmps w ?_
  cases d with
  | none => exact h
  | some d => exact h
 unfold Oper.wp at *
 rw [execOp_put o hs a d v h1]
 generalize (execOp a.eval o).run P x = r at *
 cases r with
 | ok n w' =>
  cases n <;> simp only [Oper.upon] at h ⊢
  case value u => exact ⟨_, Act.put_comm a v u h2, h⟩
  case skip => exact ⟨_, Act.put_comm a v undef h2, h⟩
  case defer e => exact ⟨_, by rw [Act.put_defers, Act.put_comm _ v undef h2], h⟩
  case enter f args =>
   refine Calls.mono h fun e w'' he => ?_
   cases e with
   | returned u => exact ⟨_, Act.put_comm a v u h2, he⟩
   | panicked c => exact hp _ _ he
   | outgrown => exact he
  case row row args => exact Rows.mono h fun u w'' he => ⟨_, Act.put_comm a v u h2, he⟩
 | halt z w' =>
  cases z <;> simp only [Oper.upon] at h ⊢
  case panic u => exact hp _ _ h
def apF (ops : Array Oper) (F : List Nat) (o : Oper) : Bool := F.all fun f => match dstOf ops f with
 | none => true
 | some d => !(o.looksAt ops).contains d && o.dst != some d
theorem apF_spec {F : List Nat} {o : Oper} (h : apF ops F o = true) : ∀ f ∈ F, ∀ t, dstOf ops f = some t → t ∉ o.looksAt ops ∧ o.dst ≠ some t := fun f hf t ht => by
 have := List.all_eq_true.1 h f hf
 rw [ht] at this
 simpa using this
theorem wp_puts {o : Oper} {x : World} (G : Nat → Nat) (hs : ∀ cs b, o.op ≠ .select cs b) (hQ : ∀ c (a : Act) (t : Array Value) w, Q (.panic c) { a with tmps := t } w → Q (.panic c) a w) :
  ∀ (ds : List Nat) (a : Act) (K : Act → World → Prop), (∀ f ∈ ds, ∀ t, dstOf ops f = some t → t ∉ o.looksAt ops ∧ o.dst ≠ some t) → o.wp P a x K Q → o.wp P (putsG ops G ds a) x (fun a'' w' => ∃ a', a'' = putsG ops G ds a' ∧ K a' w') Q
 | [], a, K, _, h => Oper.wp_mono (fun a' w' h' => ⟨a', rfl, h'⟩) h
 | i :: ds, a, K, hd, h => by
  have h1 := wp_put1 (ops := ops) (v := .pointer (some ⟨G i, 0, none⟩)) hs (fun t ht => (hd i (List.mem_cons_self ..) t ht).1) (fun t ht => (hd i (List.mem_cons_self ..) t ht).2) hQ h
  exact Oper.wp_mono (fun a'' w' ⟨a1, e1, a', e2, h'⟩ => ⟨a', by rw [e1, e2]; rfl, h'⟩) (wp_puts G hs hQ ds _ _ (fun f hf => hd f (List.mem_cons_of_mem _ hf)) h1)
theorem wanted_puts {o : Oper} (G : Nat → Nat) : ∀ (ds : List Nat) (a : Act), (∀ f ∈ ds, ∀ t, dstOf ops f = some t → t ∉ o.looksAt ops ∧ o.dst ≠ some t) → Region.wanted o (yielded ops (putsG ops G ds a).tmps) = Region.wanted o (yielded ops a.tmps)
 | [], _, _ => rfl
 | i :: ds, a, h => by
  rw [putsG_cons, wanted_puts G ds _ fun f hf => h f (List.mem_cons_of_mem _ hf)]
  exact wanted_put o a _ _ fun t ht => (h i (List.mem_cons_self ..) t ht).1
theorem exec_puts {o : Oper} (G : Nat → Nat) (hs : ∀ cs b, o.op ≠ .select cs b) : ∀ (ds : List Nat) (a : Act), (∀ f ∈ ds, ∀ t, dstOf ops f = some t → t ∉ o.looksAt ops ∧ o.dst ≠ some t) → execOp (putsG ops G ds a).eval o = execOp a.eval o
 | [], _, _ => rfl
 | i :: ds, a, h => by
  rw [putsG_cons, exec_puts G hs ds _ fun f hf => h f (List.mem_cons_of_mem _ hf)]
  exact execOp_put o hs a _ _ fun t ht => (h i (List.mem_cons_self ..) t ht).1

structure FlAt (W0 : World) (F : List Nat) (cs : Array Value) (e : TypeId) (G : Nat → Nat) (x : World) : Prop where
 at_ : ∀ f ∈ F, W0.heap.size ≤ G f ∧ x.heap[G f]? = some (.cells cs e (0, 0))
 ne : ∀ f ∈ F, ∀ g ∈ F, f ≠ g → G f ≠ G g
def wpX (P : Program) (ops : Array Oper) (Q : Exit → Act → World → Prop) (W0 : World) (F : List Nat) (cs : Array Value) (e : TypeId) (suf : STr) : List (Nat × Nat) → Act → World → Prop
 | [], a, w => ∀ (G : Nat → Nat) (x : World), From W0 x → From w x → FlAt W0 F cs e G x → wpS P ops Q W0 suf (putsG ops G F a) x
 | (i, m) :: rest, a, w => ∃ o, ops[i]? = some o ∧
  if Region.wanted o (yielded ops a.tmps) = true then
   (match m with
    | 0 => ∃ v, (∀ x, From W0 x → (execOp a.eval o).run P x = .ok (.value v) x) ∧ wpX P ops Q W0 F cs e suf rest (a.put o.dst v) w
    | 1 => ∃ v, (∀ x, (execOp a.eval o).run P x = .ok (.value v) x) ∧ wpX P ops Q W0 F cs e suf rest (a.put o.dst v) w
    | _ => ∀ x, From w x → o.wp P a x (fun a' w' => FromT x w' (wpX P ops Q W0 F cs e suf rest a' w')) Q)
  else wpX P ops Q W0 F cs e suf rest (a.put o.dst undef) w
def schedX (md : Region.Mode) (ops : Array Oper) (lt : Nat → Bool) (F : List Nat) (suf : STr) : List (Nat × Nat) → Array Bool → Bool
 | [], lo => F.all (fun f => Region.ready md ops (setAll lo (F.filter (fun g => g != f))) == [f]) && schedS md ops lt true suf (setAll lo F)
 | (i, m) :: rest, lo => !F.contains i && !lt i && ((ops[i]?).map (apF ops F)).getD false && (match m with
   | 0 => (Region.ready md ops lo).contains i && Region.free md ops lo i && lateB md ops lt i
   | 1 => (Region.ready md ops lo).contains i && Region.free md ops lo i
   | _ => Region.ready md ops (setAll lo F) == [i]) && schedX md ops lt F suf rest (lo.setIfInBounds i true)
theorem ready_less {lo : Array Bool} {ds F : List Nat} {j : Nat} (hd : ∀ f ∈ ds, f ∈ F) (hj : j ∉ F) (h : j ∈ Region.ready md ops (setAll lo ds)) : j ∈ Region.ready md ops (setAll lo F) := by
 obtain ⟨h1, o, ho, h2⟩ := mem_ready.1 h
 refine mem_ready.2 ⟨?_, o, ho, fun e he hb => ?_⟩
 ·rw [setAll_getD] at h1 ⊢
  rw [if_neg fun h => hj h.1]
  split at h1
  ·cases h1
  ·exact h1
 ·have := h2 e he hb
  rw [setAll_getD] at this ⊢
  split at this
  ·rename_i h
   rw [if_pos ⟨hd _ h.1, h.2⟩]
  ·split
   ·rfl
   ·exact this
theorem ready_more {lo : Array Bool} {ds : List Nat} {j : Nat} (hj : j ∉ ds) (h : j ∈ Region.ready md ops lo) : j ∈ Region.ready md ops (setAll lo ds) := by
 obtain ⟨h1, o, ho, h2⟩ := mem_ready.1 h
 refine mem_ready.2 ⟨?_, o, ho, fun e he hb => ?_⟩
 ·rw [setAll_getD, if_neg fun h => hj h.1]
  exact h1
 ·rw [setAll_getD]
  split
  ·rfl
  ·exact h2 e he hb
def leftF (F : List Nat) (D : Nat → Bool) : Nat := (F.filter (fun f => !D f)).length
def addD (D : Nat → Bool) (f : Nat) : Nat → Bool := fun g => D g || g == f
theorem filter_add {D : Nat → Bool} {f : Nat} : ∀ {F : List Nat}, f ∉ F → F.filter (addD D f) = F.filter D
 | [], _ => rfl
 | g :: F, h => by
  have hg : (g == f) = false := by rw [beq_eq_false_iff_ne]; exact fun e => h (by rw [e]; exact List.mem_cons_self ..)
  rw [List.filter_cons, List.filter_cons, filter_add fun h' => h (List.mem_cons_of_mem _ h')]
  unfold addD
  rw [hg, Bool.or_false]
theorem puts_add (G : Nat → Nat) {D : Nat → Bool} {f : Nat} (hD : D f = false) : ∀ {F : List Nat} {a : Act}, F.Nodup → f ∈ F → (∀ g ∈ F, ∀ h ∈ F, g ≠ h → ∀ d, dstOf ops g = some d → dstOf ops h ≠ some d) →
  putsG ops G (F.filter (addD D f)) a = (putsG ops G (F.filter D) a).put (dstOf ops f) (.pointer (some ⟨G f, 0, none⟩))
 | [], _, _, hf, _ => by cases hf
 | g :: F, a, hn, hf, hd => by
  obtain ⟨hg, hn'⟩ := List.nodup_cons.1 hn
  by_cases e : g = f
  ·subst e
   have h1 : addD D g g = true := by unfold addD; simp
   rw [List.filter_cons, if_pos h1, filter_add hg, List.filter_cons, if_neg (by rw [hD]; exact Bool.false_ne_true), putsG_cons]
   exact (putsG_put G _ _ _ a fun i hi d h' => hd i (List.mem_cons_of_mem _ ((List.mem_filter.1 hi).1)) g (List.mem_cons_self ..) (fun e => hg (e ▸ (List.mem_filter.1 hi).1)) d h').symm
  ·have hf' : f ∈ F := by
    rcases List.mem_cons.1 hf with h | h
    ·exact absurd h.symm e
    ·exact h
   have h1 : addD D f g = D g := by unfold addD; rw [beq_eq_false_iff_ne.2 e, Bool.or_false]
   rw [List.filter_cons, List.filter_cons, h1]
   have ih := fun a => puts_add G hD (F := F) (a := a) hn' hf' fun i hi j hj => hd i (List.mem_cons_of_mem _ hi) j (List.mem_cons_of_mem _ hj)
   split
   ·rw [putsG_cons, putsG_cons]
    exact ih _
   ·exact ih _
theorem set_add {D : Nat → Bool} {f : Nat} (hD : D f = false) : ∀ {F : List Nat} {l : Array Bool}, F.Nodup → f ∈ F → setAll l (F.filter (addD D f)) = (setAll l (F.filter D)).setIfInBounds f true
 | [], _, _, hf => by cases hf
 | g :: F, l, hn, hf => by
  obtain ⟨hg, hn'⟩ := List.nodup_cons.1 hn
  by_cases e : g = f
  ·subst e
   have h1 : addD D g g = true := by unfold addD; simp
   rw [List.filter_cons, if_pos h1, filter_add hg, List.filter_cons, if_neg (by rw [hD]; exact Bool.false_ne_true), setAll_cons, setAll_set]
  ·have hf' : f ∈ F := by
    rcases List.mem_cons.1 hf with h | h
    ·exact absurd h.symm e
    ·exact h
   have h1 : addD D f g = D g := by unfold addD; rw [beq_eq_false_iff_ne.2 e, Bool.or_false]
   rw [List.filter_cons, List.filter_cons, h1]
   split
   ·rw [setAll_cons, setAll_cons]
    exact set_add hD hn' hf'
   ·exact set_add hD hn' hf'
theorem left_add {D : Nat → Bool} {f : Nat} (hD : D f = false) : ∀ {F : List Nat}, F.Nodup → f ∈ F → leftF F (addD D f) + 1 = leftF F D
 | [], _, hf => by cases hf
 | g :: F, hn, hf => by
  obtain ⟨hg, hn'⟩ := List.nodup_cons.1 hn
  unfold leftF
  by_cases e : g = f
  ·subst e
   have h1 : addD D g g = true := by unfold addD; simp
   have h2 : F.filter (fun f => !addD D g f) = F.filter (fun f => !D f) := List.filter_congr fun x hx => by
    have : (x == g) = false := by rw [beq_eq_false_iff_ne]; exact fun e => hg (e ▸ hx)
    unfold addD
    rw [this, Bool.or_false]
   rw [List.filter_cons, List.filter_cons, h1, hD, h2]
   rfl
  ·have hf' : f ∈ F := by
    rcases List.mem_cons.1 hf with h | h
    ·exact absurd h.symm e
    ·exact h
   have h1 : addD D f g = D g := by unfold addD; rw [beq_eq_false_iff_ne.2 e, Bool.or_false]
   have ih := left_add hD hn' hf'
   unfold leftF at ih
   rw [List.filter_cons, List.filter_cons, h1]
   split
   ·rw [List.length_cons, List.length_cons]; omega
   ·exact ih
theorem left_zero {D : Nat → Bool} {F : List Nat} (h : leftF F D = 0) : F.filter D = F := by
 refine List.filter_eq_self.2 fun f hf => ?_
 have h1 := List.filter_eq_nil_iff.1 (List.eq_nil_of_length_eq_zero h) f hf
 simpa using h1
theorem left_pos {D : Nat → Bool} {F : List Nat} (h : leftF F D ≠ 0) : ∃ f ∈ F, D f = false := by
 unfold leftF at h
 obtain ⟨f, hf⟩ := List.exists_mem_of_length_pos (Nat.pos_of_ne_zero h)
 obtain ⟨h1, h2⟩ := List.mem_filter.1 hf
 exact ⟨f, h1, by simpa using h2⟩
structure Floats (P : Program) (md : Region.Mode) (ops : Array Oper) (lt : Nat → Bool) (F : List Nat) (cs : Array Value) (e : TypeId) : Prop where
 op : ∀ f ∈ F, ∃ o, ops[f]? = some o ∧ o.guard = none ∧ (∀ e ∈ o.after, Region.binds md e = false) ∧ ∀ (ev : Operand → Value) (x : World), (execOp ev o).run P x = .ok (.value (.pointer (some ⟨x.heap.size, 0, none⟩))) (x.alloc (.cells cs e))
 early : ∀ f ∈ F, lt f = false
 nodup : F.Nodup
 dst : ∀ g ∈ F, ∀ h ∈ F, g ≠ h → ∀ d, dstOf ops g = some d → dstOf ops h ≠ some d
theorem wpM_of_X {W0 : World} {F : List Nat} {cs : Array Value} {e : TypeId} {suf : STr} (hF : Floats P md ops lt F cs e) (hs : Region.noSelect ops = true) (hQ : ∀ c (a : Act) (t : Array Value) w, Q (.panic c) { a with tmps := t } w → Q (.panic c) a w) :
  ∀ (n : Nat) (chain : List (Nat × Nat)) (D : Nat → Bool) (G : Nat → Nat) (lo : Array Bool) (a : Act) (w x : World) (fuel : Nat), chain.length + leftF F D = n → n + suf.len ≤ fuel → schedX md ops lt F suf chain lo = true →
   (∀ f ∈ F, lo.getD f true = false) → From W0 w → From w x → FlAt W0 (F.filter D) cs e G x → wpX P ops Q W0 F cs e suf chain a w → wpM P md ops Q lt fuel (From W0) (setAll lo (F.filter D)) (putsG ops G (F.filter D) a) x := by
 intro n
 induction n with
 | zero =>
  intro chain D G lo a w x fuel hn hfu hb hlo hW0 hx hG h
  obtain rfl : chain = [] := List.eq_nil_of_length_eq_zero (by omega)
  have hl := left_zero (F := F) (D := D) (by omega)
  rw [hl] at hG ⊢
  unfold schedX at hb
  rw [Bool.and_eq_true] at hb
  exact wpM_of_S hs hQ suf fuel _ _ _ (hW0.trans (hx.mono hW0.size)) (by omega) hb.2 (h G x (hW0.trans (hx.mono hW0.size)) hx hG)
 | succ n ih =>
  intro chain D G lo a w x fuel hn hfu hb hlo hW0 hx hG h
  obtain ⟨fuel, rfl⟩ : ∃ k, fuel = k + 1 := ⟨fuel - 1, by omega⟩
  have hsub : ∀ f ∈ F.filter D, f ∈ F := fun f hf => (List.mem_filter.1 hf).1
  have hout : ∀ {i}, F.contains i = false → i ∉ F.filter D := fun hi hm => by
   have := hsub _ hm
   simp at hi
   exact hi this
  -- a float that comes up
  have float : ∀ f ∈ F, f ∈ Region.ready md ops (setAll lo (F.filter D)) → wpOp P ops Q f (fun a' w' => (lt f = true ∧ wpAny P md ops Q fuel ((setAll lo (F.filter D)).setIfInBounds f true) a' w') ∨
    (lt f = false ∧ ∃ S' : World → Prop, (∀ y, S' y → From W0 y) ∧ S' w' ∧ wpM P md ops Q lt fuel S' ((setAll lo (F.filter D)).setIfInBounds f true) a' w')) (putsG ops G (F.filter D) a) x := by
   intro f hf hr
   have hDf : D f = false := by
    cases hD : D f with
    | false => rfl
    | true =>
     have h1 := (mem_ready.1 hr).1
     rw [setAll_getD] at h1
     split at h1
     ·cases h1
     ·rename_i h2
      exact absurd ⟨List.mem_filter.2 ⟨hf, hD⟩, Decidable.byContradiction fun hs => by
       rw [Array.getD_eq_getD_getElem?, Array.getElem?_eq_none (by omega)] at h1
       cases h1⟩ h2
   obtain ⟨o, ho, hg, _, hrun⟩ := hF.op f hf
   unfold wpOp
   simp only [ho]
   have hw : Region.wanted o (yielded ops (putsG ops G (F.filter D) a).tmps) = true := by unfold Region.wanted; rw [hg]
   rw [if_pos hw]
   refine .inl ?_
   unfold Oper.wp
   rw [hrun]
   refine .inr ⟨hF.early f hf, From W0, fun _ h => h, hW0.trans ((hx.trans (((Below.refl _ _).alloc (Nat.le_refl _) _).mono hx.size)).mono hW0.size), ?_⟩
   have hodst : o.dst = dstOf ops f := by unfold dstOf; rw [ho]; rfl
   have hxs : W0.heap.size ≤ x.heap.size := Nat.le_trans hW0.size hx.size
   have hGf : ∀ g ∈ F.filter D, (fun g => if g = f then x.heap.size else G g) g = G g := fun g hg => if_neg fun e => by
    have := (List.mem_filter.1 hg).2
    rw [e, hDf] at this
    cases this
   have e1 := puts_add (ops := ops) (a := a) (fun g => if g = f then x.heap.size else G g) hDf hF.nodup hf hF.dst
   rw [putsG_congr hGf, if_pos rfl] at e1
   have e2 := set_add (l := lo) hDf hF.nodup hf
   have e3 := left_add hDf hF.nodup hf
   have hsz : (x.alloc (.cells cs e)).heap.size = x.heap.size + 1 := by show (x.heap.push _).size = _; simp
   rw [hodst, ← e1, ← e2]
   refine ih chain (addD D f) _ lo a w _ fuel (by omega) (by omega) hb hlo hW0 (hx.trans (((Below.refl _ _).alloc (Nat.le_refl _) _).mono hx.size)) ⟨fun g hg => ?_, fun g hg g' hg' hne => ?_⟩ h
   ·by_cases egf : g = f
    ·subst egf
     rw [if_pos rfl]
     exact ⟨by omega, heap_alloc_new x _⟩
    ·rw [if_neg egf]
     have hg1 : g ∈ F.filter D := by
      obtain ⟨q1, q2⟩ := List.mem_filter.1 hg
      unfold addD at q2
      rw [beq_eq_false_iff_ne.2 egf, Bool.or_false] at q2
      exact List.mem_filter.2 ⟨q1, q2⟩
     obtain ⟨q1, q2⟩ := hG.at_ g hg1
     exact ⟨q1, (Below.block ((Below.refl x.heap.size x).alloc (Nat.le_refl _) (.cells cs e)) _ (Array.getElem?_eq_some_iff.1 q2).1).trans q2⟩
   ·have lt_of : ∀ z, z ∈ F.filter (addD D f) → z ≠ f → z ∈ F.filter D ∧ G z < x.heap.size := fun z hz hzf => by
     have hz1 : z ∈ F.filter D := by
      obtain ⟨q1, q2⟩ := List.mem_filter.1 hz
      unfold addD at q2
      rw [beq_eq_false_iff_ne.2 hzf, Bool.or_false] at q2
      exact List.mem_filter.2 ⟨q1, q2⟩
     exact ⟨hz1, (Array.getElem?_eq_some_iff.1 (hG.at_ z hz1).2).1⟩
    by_cases egf : g = f
    ·have := lt_of g' hg' fun e' => hne (egf.trans e'.symm)
     rw [if_pos egf, if_neg fun e' => hne (egf.trans e'.symm)]
     omega
    ·by_cases egf' : g' = f
     ·have := lt_of g hg egf
      rw [if_neg egf, if_pos egf']
      omega
     ·rw [if_neg egf, if_neg egf']
      exact hG.ne g (lt_of g hg egf).1 g' (lt_of g' hg' egf').1 hne
  have pending : ∀ f ∈ F, D f = false → f ∈ Region.ready md ops (setAll lo (F.filter D)) := fun f hf hD => by
   obtain ⟨o, ho, _, hnb, _⟩ := hF.op f hf
   refine mem_ready.2 ⟨?_, o, ho, fun e he hb => ?_⟩
   ·rw [setAll_getD, if_neg fun h => ?_]
    ·exact hlo f hf
    ·have := (List.mem_filter.1 h.1).2
     rw [hD] at this
     cases this
   ·rw [hnb e he] at hb
    cases hb
  match chain, hb, h, hn with
  | [], hb, h, hn =>
   unfold schedX at hb
   rw [Bool.and_eq_true, List.all_eq_true] at hb
   obtain ⟨f0, hf0, hD0⟩ := left_pos (F := F) (D := D) (by simp at hn; omega)
   have hrd := hb.1 f0 hf0
   rw [beq_iff_eq] at hrd
   have hsub2 : ∀ f ∈ F.filter D, f ∈ F.filter (fun g => g != f0) := fun f hf => by
    obtain ⟨q1, q2⟩ := List.mem_filter.1 hf
    refine List.mem_filter.2 ⟨q1, ?_⟩
    rw [bne_iff_ne]
    intro e
    rw [e, hD0] at q2
    cases q2
   have only : ∀ j, j ∈ Region.ready md ops (setAll lo (F.filter D)) → j ∈ F := fun j hj => by
    refine Classical.byContradiction fun hjF => ?_
    have := ready_less hsub2 (fun h' => hjF ((List.mem_filter.1 h').1)) hj
    rw [hrd, List.mem_singleton] at this
    exact hjF (this ▸ hf0)
   refine ⟨fun h0 => ?_, fun j hj => float j (only j hj) hj⟩
   have h1 := pending f0 hf0 hD0
   rw [h0] at h1
   cases h1
  | (i, m) :: rest, hb, h, hn =>
   obtain ⟨o, ho, h⟩ := h
   unfold schedX at hb
   simp only [Bool.and_eq_true, Bool.not_eq_true'] at hb
   obtain ⟨⟨⟨⟨hiF, hli⟩, hap⟩, hm⟩, hrec⟩ := hb
   have hap' : apF ops F o = true := by rw [ho] at hap; exact hap
   have hspec := fun f (hf : f ∈ F.filter D) => apF_spec hap' f (hsub f hf)
   have hsel := Region.noSelect_spec hs
   have hne : ∀ f ∈ F, i ≠ f := fun f hf e => by
    rw [e] at hiF
    simp at hiF
    exact hiF hf
   have hlo' : ∀ f ∈ F, (lo.setIfInBounds i true).getD f true = false := fun f hf => by
    rw [set_getD, if_neg fun h => hne f hf h.1]
    exact hlo f hf
   have hw := wanted_puts (o := o) G (F.filter D) a hspec
   have hex := exec_puts (o := o) G (fun cs b => hsel i o cs b ho) (F.filter D) a hspec
   have hpt : ∀ v, (putsG ops G (F.filter D) a).put o.dst v = putsG ops G (F.filter D) (a.put o.dst v) := fun v => putsG_put G _ v _ a (fun f hf d hd => (hspec f hf d hd).2)
   have hst := setAll_set i (F.filter D) lo
   have hn' : rest.length + leftF F D = n := by simp at hn; omega
   have next : ∀ v, wpX P ops Q W0 F cs e suf rest (a.put o.dst v) w → wpM P md ops Q lt fuel (From W0) ((setAll lo (F.filter D)).setIfInBounds i true) ((putsG ops G (F.filter D) a).put o.dst v) x := fun v h => by
    rw [hpt, hst]
    exact ih rest D G _ _ w x fuel hn' (by omega) hrec hlo' hW0 hx hG h
   have first : ∀ v, i ∈ Region.ready md ops lo → Region.free md ops lo i = true → ((lateB md ops lt i = true ∧ YieldsIf P ops (From W0) o v (putsG ops G (F.filter D) a)) ∨ Yields P ops o v (putsG ops G (F.filter D) a)) → wpX P ops Q W0 F cs e suf rest (a.put o.dst v) w →
     wpM P md ops Q lt (fuel + 1) (From W0) (setAll lo (F.filter D)) (putsG ops G (F.filter D) a) x := fun v hr hf hy h =>
    wpM_first ho hsel (hput hQ o v) fuel (From W0) _ _ _ (fun j oj hj hji hun hno => Region.free_spec ho hf j oj hj hji (by
     rw [setAll_getD] at hun
     split at hun
     ·cases hun
     ·exact hun) hno) (ready_more (hout hiF) hr) hy (hW0.trans (hx.mono hW0.size)) (next v h) hli
   match m, h, hm with
   | 0, h, hm =>
    simp only [Bool.and_eq_true] at hm
    by_cases hwa : Region.wanted o (yielded ops a.tmps) = true
    ·rw [if_pos hwa] at h
     obtain ⟨v, hv, h⟩ := h
     exact first v (by simpa using hm.1.1) hm.1.2 (.inl ⟨hm.2, .inl ⟨hw.trans hwa, fun y hy => by rw [hex]; exact hv y hy⟩⟩) h
    ·rw [if_neg hwa] at h
     exact first undef (by simpa using hm.1.1) hm.1.2 (.inr (.inr ⟨hw.trans (by simpa using hwa), rfl⟩)) h
   | 1, h, hm =>
    simp only [Bool.and_eq_true] at hm
    by_cases hwa : Region.wanted o (yielded ops a.tmps) = true
    ·rw [if_pos hwa] at h
     obtain ⟨v, hv, h⟩ := h
     exact first v (by simpa using hm.1) hm.2 (.inr (.inl ⟨hw.trans hwa, fun y => by rw [hex]; exact hv y⟩)) h
    ·rw [if_neg hwa] at h
     exact first undef (by simpa using hm.1) hm.2 (.inr (.inr ⟨hw.trans (by simpa using hwa), rfl⟩)) h
   | m + 2, h, hm =>
    have hm : (Region.ready md ops (setAll lo F) == [i]) = true := hm
    rw [beq_iff_eq] at hm
    refine ⟨fun h0 => ?_, fun j hj => ?_⟩
    ·by_cases hz : leftF F D = 0
     ·rw [left_zero hz, hm] at h0
      cases h0
     ·obtain ⟨f0, hf0, hD0⟩ := left_pos hz
      have h1 := pending f0 hf0 hD0
      rw [h0] at h1
      cases h1
    ·by_cases hjF : j ∈ F
     ·exact float j hjF hj
     ·have hji := ready_less hsub hjF hj
      rw [hm, List.mem_singleton] at hji
      subst hji
      unfold wpOp
      simp only [ho]
      by_cases hwa : Region.wanted o (yielded ops a.tmps) = true
      ·rw [if_pos (hw.trans hwa)]
       rw [if_pos hwa] at h
       refine .inl (Oper.wp_mono (fun a'' w' h' => ?_) (wp_puts G (fun cs b => hsel j o cs b ho) hQ (F.filter D) a _ hspec (h x hx)))
       obtain ⟨a', rfl, hb', h'⟩ := h'
       refine .inr ⟨hli, From W0, fun _ h => h, hW0.trans ((hx.trans (hb'.mono hx.size)).mono hW0.size), ?_⟩
       rw [hst]
       exact ih rest D G _ a' w' w' fuel hn' (by omega) hrec hlo' (hW0.trans ((hx.trans (hb'.mono hx.size)).mono hW0.size)) (From.refl w') ⟨fun f hf => ⟨(hG.at_ f hf).1, (hb'.block _ (Array.getElem?_eq_some_iff.1 (hG.at_ f hf).2).1).trans (hG.at_ f hf).2⟩, hG.ne⟩ h'
      ·rw [if_neg (fun h => hwa (hw.symm.trans h))]
       rw [if_neg hwa] at h
       exact .inr ⟨hli, From W0, fun _ h => h, hW0.trans (hx.mono hW0.size), next undef h⟩
def putsE (G : Nat → Nat) (F : List (Nat × Nat)) (a : Act) : Act := F.foldl (fun a p => a.put (some p.2) (.pointer (some ⟨G p.1, 0, none⟩))) a
theorem putsG_E (G : Nat → Nat) : ∀ (F : List (Nat × Nat)) (a : Act), (∀ p ∈ F, dstOf ops p.1 = some p.2) → putsG ops G (F.map (·.1)) a = putsE G F a
 | [], _, _ => rfl
 | p :: F, a, h => by
  rw [List.map_cons, putsG_cons, h p (List.mem_cons_self ..), putsG_E G F _ fun q hq => h q (List.mem_cons_of_mem _ hq)]
  rfl
def schedXA (ops : Array Oper) (F : List Nat) (chain : List (Nat × Nat)) (suf : STr) : Bool :=
 Region.noSelect ops && decide (chain.length + F.length + suf.len ≤ ops.size) && schedX .any ops (fun i => suf.late.contains i) F suf chain (Array.replicate ops.size false) &&
 F.all (fun f => !suf.late.contains f && decide (f < ops.size) && F.all (fun g => f == g || ((dstOf ops f).isSome && dstOf ops f != dstOf ops g))) && decide F.Nodup
theorem wp_region_X {id : Nat} {a : Act} {w : World} (F : List Nat) (chain : List (Nat × Nat)) (suf : STr) (cs : Array Value) (e : TypeId) (hm : P.follows .mixedOrders = true) (hb : schedXA ops F chain suf = true)
  (hop : ∀ f ∈ F, ∃ o, ops[f]? = some o ∧ o.guard = none ∧ (∀ e ∈ o.after, Region.binds .any e = false) ∧ ∀ (ev : Operand → Value) (x : World), (execOp ev o).run P x = .ok (.value (.pointer (some ⟨x.heap.size, 0, none⟩))) (x.alloc (.cells cs e)))
  (hQ : ∀ c (a : Act) (t : Array Value) w, Q (.panic c) { a with tmps := t } w → Q (.panic c) a w)
  (h : wpX P ops Q w.drew F cs e suf chain a w.drew) : (Code.region id ops true).wp P Q a w := by
 unfold schedXA at hb
 simp only [Bool.and_eq_true, decide_eq_true_eq] at hb
 obtain ⟨⟨⟨⟨h1, h2⟩, h3⟩, h4⟩, h5⟩ := hb
 rw [List.all_eq_true] at h4
 have hF : Floats P .any ops (fun i => suf.late.contains i) F cs e := ⟨hop, fun f hf => by
   have := h4 f hf
   simp only [Bool.and_eq_true, Bool.not_eq_true'] at this
   exact this.1.1, h5, fun f hf g hg hne d hd => by
   have := h4 f hf
   simp only [Bool.and_eq_true, List.all_eq_true] at this
   have := this.2 g hg
   rw [Bool.or_eq_true, beq_iff_eq] at this
   rcases this with h | h
   ·exact absurd h hne
   ·rw [Bool.and_eq_true, bne_iff_ne] at h
    rw [← hd]
    exact fun e => h.2 e.symm⟩
 have hnil : F.filter (fun _ => false) = [] := List.filter_eq_nil_iff.2 (by simp)
 have hlen : leftF F (fun _ => false) = F.length := by
  unfold leftF
  rw [List.filter_eq_self.2 (by simp)]
 have hM := wpM_of_X (W0 := w.drew) hF h1 hQ (chain.length + F.length) chain (fun _ => false) (fun _ => 0) (Array.replicate ops.size false) a w.drew w.drew ops.size (by rw [hlen]) (by omega) h3 (fun f hf => by
   have := h4 f hf
   simp only [Bool.and_eq_true, decide_eq_true_eq] at this
   rw [Array.getD_eq_getD_getElem?]
   simp [this.1.2]) (From.refl _) (From.refl _) ⟨fun f hf => absurd (hnil ▸ hf : f ∈ ([] : List Nat)) (List.not_mem_nil), fun f hf => absurd (hnil ▸ hf : f ∈ ([] : List Nat)) (List.not_mem_nil)⟩ h
 rw [hnil] at hM
 exact wp_region_any hm (wpAny_of_M _ _ _ _ _ hM)

def FlOp (P : Program) (ops : Array Oper) (cs : Array Value) (e : TypeId) (f : Nat) : Prop := ∃ o, ops[f]? = some o ∧ o.guard = none ∧ (∀ e ∈ o.after, Region.binds .any e = false) ∧ ∀ (ev : Operand → Value) (x : World), (execOp ev o).run P x = .ok (.value (.pointer (some ⟨x.heap.size, 0, none⟩))) (x.alloc (.cells cs e))
def XGo (P : Program) (ops : Array Oper) (Q : Exit → Act → World → Prop) (F : List (Nat × Nat)) (cs : Array Value) (e : TypeId) (suf : STr) (W0 : World) : List (Nat × Nat) → Act → World → Prop
 | [], a, w => ∀ (G : Nat → Nat) (x : World), From W0 x → From w x → FlAt W0 (F.map (·.1)) cs e G x → wpS P ops Q W0 suf (putsE G F a) x
 | (i, m) :: rest, a, w => ∃ o, ops[i]? = some o ∧
  if Region.wanted o (yielded ops a.tmps) = true then
   (match m with
    | 0 => ∃ v, (∀ x, From W0 x → (execOp a.eval o).run P x = .ok (.value v) x) ∧ XGo P ops Q F cs e suf W0 rest (a.put o.dst v) w
    | 1 => ∃ v, (∀ x, (execOp a.eval o).run P x = .ok (.value v) x) ∧ XGo P ops Q F cs e suf W0 rest (a.put o.dst v) w
    | _ => ∀ x, From w x → o.wp P a x (fun a' w' => FromT x w' (XGo P ops Q F cs e suf W0 rest a' w')) Q)
  else XGo P ops Q F cs e suf W0 rest (a.put o.dst undef) w
theorem X_of_go {W0 : World} {F : List (Nat × Nat)} {cs : Array Value} {e : TypeId} {suf : STr} (hd : ∀ p ∈ F, dstOf ops p.1 = some p.2) : ∀ (chain : List (Nat × Nat)) (a : Act) (w : World), XGo P ops Q F cs e suf W0 chain a w → wpX P ops Q W0 (F.map (·.1)) cs e suf chain a w
 | [], a, w, h => fun G x h0 hx hF => by rw [putsG_E G F a hd]; exact h G x h0 hx hF
 | (i, m) :: rest, a, w, h => by
  obtain ⟨o, ho, h⟩ := h
  refine ⟨o, ho, ?_⟩
  split
  ·rename_i hw
   rw [if_pos hw] at h
   match m, h with
   | 0, ⟨v, hv, h⟩ => exact ⟨v, hv, X_of_go hd rest _ _ h⟩
   | 1, ⟨v, hv, h⟩ => exact ⟨v, hv, X_of_go hd rest _ _ h⟩
   | m + 2, h => exact fun x hx => Oper.wp_mono (fun a' w' h' => ⟨h'.1, X_of_go hd rest _ _ h'.2⟩) (h x hx)
  ·rename_i hw
   rw [if_neg hw] at h
   exact X_of_go hd rest _ _ h
theorem wp_region_XE {id : Nat} {a : Act} {w : World} (F chain : List (Nat × Nat)) (suf : STr) (cs : Array Value) (e : TypeId) (hm : P.follows .mixedOrders = true) (hb : schedXA ops (F.map (·.1)) chain suf = true) (hd : F.all (fun p => dstOf ops p.1 == some p.2) = true)
  (hop : ∀ p ∈ F, FlOp P ops cs e p.1) (hQ : ∀ c (a : Act) (t : Array Value) w, Q (.panic c) { a with tmps := t } w → Q (.panic c) a w)
  (h : XGo P ops Q F cs e suf w.drew chain a w.drew) : (Code.region id ops true).wp P Q a w :=
 wp_region_X (F.map (·.1)) chain suf cs e hm hb (fun f hf => by
  obtain ⟨p, hp, rfl⟩ := List.mem_map.1 hf
  exact hop p hp) hQ (X_of_go (fun p hp => by
   have := List.all_eq_true.1 hd p hp
   simpa using this) chain a w.drew h)
theorem flOp_of {cs : Array Value} {e : TypeId} {f : Nat} {o : Oper} (ho : ops[f]? = some o) (hg : o.guard = none) (ha : o.after = #[]) (hr : ∀ (ev : Operand → Value) (x : World), (execOp ev o).run P x = .ok (.value (.pointer (some ⟨x.heap.size, 0, none⟩))) (x.alloc (.cells cs e))) : FlOp P ops cs e f :=
 ⟨o, ho, hg, fun e he => by rw [ha] at he; simp at he, hr⟩

variable {W0 : World} {F : List (Nat × Nat)} {cs : Array Value} {e : TypeId} {suf : STr} {i : Nat} {o : Oper} {rest : List (Nat × Nat)} {a : Act} {w : World} {v : Value}
theorem wpX_nil (h : ∀ (G : Nat → Nat) (x : World), From W0 x → From w x → FlAt W0 (F.map (·.1)) cs e G x → wpS P ops Q W0 suf (putsE G F a) x) : XGo P ops Q F cs e suf W0 [] a w := h
theorem wpX_pure (ho : ops[i]? = some o) (hw : Region.wanted o (yielded ops a.tmps) = true) (hv : ∀ x, (execOp a.eval o).run P x = .ok (.value v) x) (h : XGo P ops Q F cs e suf W0 rest (a.put o.dst v) w) : XGo P ops Q F cs e suf W0 ((i, 1) :: rest) a w :=
 ⟨o, ho, by rw [if_pos hw]; exact ⟨v, hv, h⟩⟩
theorem wpX_read (ho : ops[i]? = some o) (hw : Region.wanted o (yielded ops a.tmps) = true) (hv : ∀ x, From W0 x → (execOp a.eval o).run P x = .ok (.value v) x) (h : XGo P ops Q F cs e suf W0 rest (a.put o.dst v) w) : XGo P ops Q F cs e suf W0 ((i, 0) :: rest) a w :=
 ⟨o, ho, by rw [if_pos hw]; exact ⟨v, hv, h⟩⟩
theorem wpX_call (ho : ops[i]? = some o) (hw : Region.wanted o (yielded ops a.tmps) = true) (h : ∀ x, From w x → ∀ K : Act → World → Prop, (∀ a' w', FromT x w' (XGo P ops Q F cs e suf W0 rest a' w') → K a' w') → o.wp P a x K Q) : XGo P ops Q F cs e suf W0 ((i, 2) :: rest) a w :=
 ⟨o, ho, by rw [if_pos hw]; exact fun x hx => h x hx _ (fun _ _ h => h)⟩
theorem wpX_skip {m : Nat} (ho : ops[i]? = some o) (hw : Region.wanted o (yielded ops a.tmps) = false) (h : XGo P ops Q F cs e suf W0 rest (a.put o.dst undef) w) : XGo P ops Q F cs e suf W0 ((i, m) :: rest) a w :=
 ⟨o, ho, by rw [if_neg (by rw [hw]; exact Bool.false_ne_true)]; exact h⟩
theorem wpX_load {t : TypeId} {x : Operand} (ho : ops[i]? = some o) (hop : o.op = .load t x) (hw : Region.wanted o (yielded ops a.tmps) = true) (hv : (execOp a.eval o).run P W0 = .ok (.value v) W0) (h : XGo P ops Q F cs e suf W0 rest (a.put o.dst v) w) : XGo P ops Q F cs e suf W0 ((i, 0) :: rest) a w := by
 refine wpX_read ho hw (fun y hy => ?_) h
 have hr : readB P (execOp a.eval o) := by
  unfold execOp
  rw [hop]
  exact readB_bind' (readB_loadAt t _) fun _ => trivial
 exact (readB_run _ hr hv).2 y hy
end
end Go.Proofs.YtnohmgpmmhlloaaGreatDoor
