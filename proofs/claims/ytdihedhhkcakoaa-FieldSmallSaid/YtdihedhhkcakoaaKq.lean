/-
  The walks of layer 2's square, power, Inv.
-/
import Derived.Test.YtdihedhhkcakoaaKp
import Derived.Laws.EntriesVeiled
namespace Go.Proofs.Ytdihedhhkcakoaa
open Go.RowKit

set_option maxRecDepth 100000 in
set_option maxHeartbeats 800000 in
theorem square_walk (a b c d e : Nat) (w : World) (ha : Red [a, b, c, d, e]) :
    Calls Try.prog 40 #[(.agg #[.int .u64 (a : Int), .int .u64 (b : Int), .int .u64 (c : Int), .int .u64 (d : Int), .int .u64 (e : Int)])] w fun r w' => ∃ p q s t u : Nat, ev [p, q, s, t, u] = ev [a, b, c, d, e] * ev [a, b, c, d, e] % Pq ∧ Red [p, q, s, t, u] ∧ r = .returned (.agg #[.int .u64 (p : Int), .int .u64 (q : Int), .int .u64 (s : Int), .int .u64 (t : Int), .int .u64 (u : Int)]) ∧ Below w.heap.size w w' := by
  have HC := hide (fun W => mul_walk a b c d e a b c d e W ha ha)
  have HSE := hide (((St.init w NoB).alloc #[.int .u64 (a : Int), .int .u64 (b : Int), .int .u64 (c : Int), .int .u64 (d : Int), .int .u64 (e : Int)] 27).alloc #[.int .u64 0, .int .u64 0, .int .u64 0, .int .u64 0, .int .u64 0] 27)
  rw [size_alloc1] at HSE
  clear ha
  go_enter Try.func40, Try.ntmps40
  go_wp2_with (go_at_call 15; refine (HC.out _).mono ?_; rintro r w2 ⟨r0, r1, r2, r3, r4, hev, hred, rfl, hb2⟩; have hS2 := HSE.out.call hb2; have z0 : w2.cell? ⟨w.heap.size + 1, 0, none⟩ = some (.int .u64 0) := hS2.cell 0 rfl 0; have z1 : w2.cell? ⟨w.heap.size + 1, 1, none⟩ = some (.int .u64 0) := hS2.cell 0 rfl 1; have z2 : w2.cell? ⟨w.heap.size + 1, 2, none⟩ = some (.int .u64 0) := hS2.cell 0 rfl 2; have z3 : w2.cell? ⟨w.heap.size + 1, 3, none⟩ = some (.int .u64 0) := hS2.cell 0 rfl 3; have z4 : w2.cell? ⟨w.heap.size + 1, 4, none⟩ = some (.int .u64 0) := hS2.cell 0 rfl 4; have y0 := hS2.free 0 rfl 0; have y1 := hS2.free 0 rfl 1; have y2 := hS2.free 0 rfl 2; have y3 := hS2.free 0 rfl 3; have y4 := hS2.free 0 rfl 4)
  have HS := hide (((((hS2.setCell 0 rfl 0 (.int .u64 (r0 : Int))).setCell 0 rfl 1 (.int .u64 (r1 : Int))).setCell 0 rfl 2 (.int .u64 (r2 : Int))).setCell 0 rfl 3 (.int .u64 (r3 : Int))).setCell 0 rfl 4 (.int .u64 (r4 : Int)))
  refine bodyPost_ret (results_cell_row rfl _ _ (w.heap.size + 1) _ _ _ _ rfl (HS.out.heap 0 rfl) Try.underlying27 rfl (by kernel_rfl)) rfl ?_
  exact ⟨r0, r1, r2, r3, r4, hev, hred, rfl, HS.out.below⟩
/-- The exponent's bits, from the highest. -/
def pbit (less i : Nat) : Nat := if 5 ≤ i then 1 else (31 - less) / 2 ^ i % 2
def pexp (set less : Nat) : Nat → Nat
  | 0 => 0
  | n + 1 => 2 * pexp set less n + pbit less (set - 1 - n)
theorem pow_mod_two (X n m : Nat) (P : Nat) : X ^ n % P * (X ^ m % P) % P = X ^ (n + m) % P := by
  rw [← Nat.mul_mod, ← Nat.pow_add]
theorem pexp_sq (X n : Nat) : X ^ n % Pq * (X ^ n % Pq) % Pq = X ^ (2 * n) % Pq := by
  rw [pow_mod_two, Nat.two_mul]
def PowRel (w : World) (g set less : Nat) (a b c d e : Nat) (iv : Value) (wr : World) : Prop :=
  ∃ (m p q s t u : Nat), m ≤ set ∧ iv = .int .i64 ((m : Int) - 1) ∧ Red [p, q, s, t, u] ∧ ev [p, q, s, t, u] = ev [a, b, c, d, e] ^ pexp set less (set - m) % Pq ∧
    St w NoB wr [.cells g #[.int .u64 (p : Int), .int .u64 (q : Int), .int .u64 (s : Int), .int .u64 (t : Int), .int .u64 (u : Int)] 27, .cells (g + 1) #[.func (.func 40) #[] #[], .func (.func 15) #[.agg #[.int .u64 (a : Int), .int .u64 (b : Int), .int .u64 (c : Int), .int .u64 (d : Int), .int .u64 (e : Int)]] #[]] 66, .cells (w.heap.size + 1) #[.int .u64 0, .int .u64 0, .int .u64 0, .int .u64 0, .int .u64 0] 27]
theorem pbit_lo (less i : Nat) (h : i < 5) : pbit less i = (31 - less) / 2 ^ i % 2 := by unfold pbit; rw [if_neg (by omega)]
theorem pbit_hi (less i : Nat) (h : 5 ≤ i) : pbit less i = 1 := by unfold pbit; rw [if_pos h]
theorem pexp_step (set less i X y : Nat) (h : i < set) (hy : y = X ^ pexp set less (set - (i + 1)) % Pq) : (pbit less i = 1 → X % Pq = X → X * (y * y % Pq) % Pq = X ^ pexp set less (set - i) % Pq) ∧ (pbit less i = 0 → y * y % Pq = X ^ pexp set less (set - i) % Pq) := by
  have e : set - i = (set - (i + 1)) + 1 := by omega
  rw [e, pexp, show set - 1 - (set - (i + 1)) = i from by omega, hy, pexp_sq]
  refine ⟨fun h1 hX => ?_, fun h0 => by rw [h0]; rfl⟩
  rw [h1, Nat.pow_succ, Nat.mul_comm, ← Nat.mod_mul_mod, Nat.mod_mod, Nat.mod_mul_mod]
set_option maxRecDepth 100000 in
set_option maxHeartbeats 1600000 in
theorem power_walk (a b c d e set less : Nat) (w : World) (ha : Red [a, b, c, d, e]) (hs1 : 1 ≤ set) (hs : set ≤ 300) (hl : less ≤ 31) :
    Calls Try.prog 35 #[(.agg #[.int .u64 (a : Int), .int .u64 (b : Int), .int .u64 (c : Int), .int .u64 (d : Int), .int .u64 (e : Int)]), .int .i64 (set : Int), .int .u64 (less : Int)] w fun r w' => ∃ p q s t u : Nat, ev [p, q, s, t, u] = ev [a, b, c, d, e] ^ pexp set less set % Pq ∧ Red [p, q, s, t, u] ∧ r = .returned (.agg #[.int .u64 (p : Int), .int .u64 (q : Int), .int .u64 (s : Int), .int .u64 (t : Int), .int .u64 (u : Int)]) ∧ Below w.heap.size w w' := by
  have HA := hide ha
  have H1 := hide (fun W => small_walk 1 W (by omega))
  have HS0 := hide (((St.init w NoB).alloc #[.int .u64 (a : Int), .int .u64 (b : Int), .int .u64 (c : Int), .int .u64 (d : Int), .int .u64 (e : Int)] 27).alloc #[.int .u64 0, .int .u64 0, .int .u64 0, .int .u64 0, .int .u64 0] 27)
  rw [size_alloc1] at HS0
  clear ha
  go_enter Try.func35, Try.ntmps35
  go_wp2_with (go_at_call 14; refine (H1.out _).mono ?_; rintro r w1 ⟨rfl, hb1⟩; have hS1 := HS0.out.call hb1; have n0 : w1.cell? ⟨w.heap.size, 0, none⟩ = some (.int .u64 (a : Int)) := hS1.cell 1 rfl 0; have n1 : w1.cell? ⟨w.heap.size, 1, none⟩ = some (.int .u64 (b : Int)) := hS1.cell 1 rfl 1; have n2 : w1.cell? ⟨w.heap.size, 2, none⟩ = some (.int .u64 (c : Int)) := hS1.cell 1 rfl 2; have n3 : w1.cell? ⟨w.heap.size, 3, none⟩ = some (.int .u64 (d : Int)) := hS1.cell 1 rfl 3; have n4 : w1.cell? ⟨w.heap.size, 4, none⟩ = some (.int .u64 (e : Int)) := hS1.cell 1 rfl 4; have hgt : w.heap.size < w1.heap.size := Chunk.lt (hS1.sat 1 _ rfl) rfl)
  have hSx := (hS1.alloc #[.int .u64 1, .int .u64 0, .int .u64 0, .int .u64 0, .int .u64 0] 27).alloc #[.func (.func 40) #[] #[], .func (.func 15) #[.agg #[.int .u64 (a : Int), .int .u64 (b : Int), .int .u64 (c : Int), .int .u64 (d : Int), .int .u64 (e : Int)]] #[]] 66
  simp only [size_alloc1] at hSx
  have HSX := hide (hSx.pickL (H' := [.cells w1.heap.size #[.int .u64 ((1 : Nat) : Int), .int .u64 ((0 : Nat) : Int), .int .u64 ((0 : Nat) : Int), .int .u64 ((0 : Nat) : Int), .int .u64 ((0 : Nat) : Int)] 27, .cells (w1.heap.size + 1) #[.func (.func 40) #[] #[], .func (.func 15) #[.agg #[.int .u64 (a : Int), .int .u64 (b : Int), .int .u64 (c : Int), .int .u64 (d : Int), .int .u64 (e : Int)]] #[]] 66, .cells (w.heap.size + 1) #[.int .u64 0, .int .u64 0, .int .u64 0, .int .u64 0, .int .u64 0] 27]) [1, 0, 2] (by decide) rfl)
  clear hSx hS1 n0 n1 n2 n3 n4 hgt hb1 HS0
  generalize w1.heap.size = g at HSX ⊢
  go_loopw [9] (fun i wr => PowRel w g set less a b c d e i wr) (fun i _ => ((intOf i) + 1).toNat)
  case atStart => exact ⟨set, 1, 0, 0, 0, 0, Nat.le_refl _, rfl, red_small 1 (by omega), by rw [ev_small 1 (by omega), Nat.sub_self, pexp, Nat.pow_zero]; exact (Nat.mod_eq_of_lt (by have := Pq_256.2; omega)).symm, HSX.out⟩
  case round =>
    obtain ⟨m, p, q, s, t, u, hm, rfl, hred, hev, hS⟩ := hrel
    have n0 : wr.cell? ⟨g, 0, none⟩ = some (.int .u64 (p : Int)) := hS.cell 0 rfl 0
    have n1 : wr.cell? ⟨g, 1, none⟩ = some (.int .u64 (q : Int)) := hS.cell 0 rfl 1
    have n2 : wr.cell? ⟨g, 2, none⟩ = some (.int .u64 (s : Int)) := hS.cell 0 rfl 2
    have n3 : wr.cell? ⟨g, 3, none⟩ = some (.int .u64 (t : Int)) := hS.cell 0 rfl 3
    have n4 : wr.cell? ⟨g, 4, none⟩ = some (.int .u64 (u : Int)) := hS.cell 0 rfl 4
    have g0 : wr.cell? ⟨g + 1, 0, none⟩ = some (.func (.func 40) #[] #[]) := hS.cell 1 rfl 0
    have f0 := hS.free 0 rfl 0
    have f1 := hS.free 0 rfl 1
    have f2 := hS.free 0 rfl 2
    have f3 := hS.free 0 rfl 3
    have f4 := hS.free 0 rfl 4
    have HS := hide hS
    cases m with
    | zero =>
      have hd : decide ((0 : Int) ≤ ((0 : Nat) : Int) - 1) = false := by decide
      have z0 : wr.cell? ⟨w.heap.size + 1, 0, none⟩ = some (.int .u64 0) := hS.cell 2 rfl 0
      have z1 : wr.cell? ⟨w.heap.size + 1, 1, none⟩ = some (.int .u64 0) := hS.cell 2 rfl 1
      have z2 : wr.cell? ⟨w.heap.size + 1, 2, none⟩ = some (.int .u64 0) := hS.cell 2 rfl 2
      have z3 : wr.cell? ⟨w.heap.size + 1, 3, none⟩ = some (.int .u64 0) := hS.cell 2 rfl 3
      have z4 : wr.cell? ⟨w.heap.size + 1, 4, none⟩ = some (.int .u64 0) := hS.cell 2 rfl 4
      have y0 := hS.free 2 rfl 0
      have y1 := hS.free 2 rfl 1
      have y2 := hS.free 2 rfl 2
      have y3 := hS.free 2 rfl 3
      have y4 := hS.free 2 rfl 4
      have HEV := hide hev
      have HR := hide (((((hS.setCell 2 rfl 0 (.int .u64 (p : Int))).setCell 2 rfl 1 (.int .u64 (q : Int))).setCell 2 rfl 2 (.int .u64 (s : Int))).setCell 2 rfl 3 (.int .u64 (t : Int))).setCell 2 rfl 4 (.int .u64 (u : Int)))
      clear hS hev
      go_wp2_with fail
      refine bodyPost_ret (results_cell_row rfl _ _ (w.heap.size + 1) _ _ _ _ rfl (HR.out.heap 2 rfl) Try.underlying27 rfl (by kernel_rfl)) rfl ?_
      exact ⟨p, q, s, t, u, HEV.out, hred, rfl, HR.out.below⟩
    | succ i =>
      have hie : ((i + 1 : Nat) : Int) - 1 = (i : Int) := by omega
      rw [hie]
      have hd : decide ((0 : Int) ≤ (i : Int)) = true := by simp
      obtain ⟨k1, k0⟩ := pexp_step set less i (ev [a, b, c, d, e]) (ev [p, q, s, t, u]) (by omega) hev
      have K1 := hide k1
      have K0 := hide k0
      have HC := hide (fun W => square_walk p q s t u W hred)
      have HI : Hid (i + 1 ≤ set) := hide hm
      clear hie hS hev k1 k0
      go_upto_region 7 with (go_at_call 40; refine (HC.out _).mono ?_; rintro r w2 ⟨r0, r1, r2, r3, r4, hev2, hred2, rfl, hb2⟩; have hS2 := HS.out.call hb2; have x0 : w2.cell? ⟨g, 0, none⟩ = some (.int .u64 (p : Int)) := hS2.cell 0 rfl 0; have x1 : w2.cell? ⟨g, 1, none⟩ = some (.int .u64 (q : Int)) := hS2.cell 0 rfl 1; have x2 : w2.cell? ⟨g, 2, none⟩ = some (.int .u64 (s : Int)) := hS2.cell 0 rfl 2; have x3 : w2.cell? ⟨g, 3, none⟩ = some (.int .u64 (t : Int)) := hS2.cell 0 rfl 3; have x4 : w2.cell? ⟨g, 4, none⟩ = some (.int .u64 (u : Int)) := hS2.cell 0 rfl 4; have v0 := hS2.free 0 rfl 0; have v1 := hS2.free 0 rfl 1; have v2 := hS2.free 0 rfl 2; have v3 := hS2.free 0 rfl 3; have v4 := hS2.free 0 rfl 4; have HEV2 := hide hev2; have HRED2 := hide hred2; have HS2 := hide (((((hS2.setCell 0 rfl 0 (.int .u64 (r0 : Int))).setCell 0 rfl 1 (.int .u64 (r1 : Int))).setCell 0 rfl 2 (.int .u64 (r2 : Int))).setCell 0 rfl 3 (.int .u64 (r3 : Int))).setCell 0 rfl 4 (.int .u64 (r4 : Int))); clear hev2 hred2 hS2 n0 n1 n2 n3 n4 f0 f1 f2 f3 f4)
      clear x0 x1 x2 x3 x4 v0 v1 v2 v3 v4 g0
      generalize (((((w2.setCell ⟨g, 0, none⟩ (.int .u64 (r0 : Int))).setCell ⟨g, 1, none⟩ (.int .u64 (r1 : Int))).setCell ⟨g, 2, none⟩ (.int .u64 (r2 : Int))).setCell ⟨g, 3, none⟩ (.int .u64 (r3 : Int))).setCell ⟨g, 4, none⟩ (.int .u64 (r4 : Int))) = wz at HS2 ⊢
      replace HS2 : Hid (St w NoB wz [.cells g #[.int .u64 (r0 : Int), .int .u64 (r1 : Int), .int .u64 (r2 : Int), .int .u64 (r3 : Int), .int .u64 (r4 : Int)] 27, .cells (g + 1) #[.func (.func 40) #[] #[], .func (.func 15) #[.agg #[.int .u64 (a : Int), .int .u64 (b : Int), .int .u64 (c : Int), .int .u64 (d : Int), .int .u64 (e : Int)]] #[]] 66, .cells (w.heap.size + 1) #[.int .u64 0, .int .u64 0, .int .u64 0, .int .u64 0, .int .u64 0] 27]) := HS2
      have g1 : wz.cell? ⟨g + 1, 1, none⟩ = some (.func (.func 15) #[.agg #[.int .u64 (a : Int), .int .u64 (b : Int), .int .u64 (c : Int), .int .u64 (d : Int), .int .u64 (e : Int)]] #[]) := HS2.out.cell 1 rfl 1
      have n0 : wz.cell? ⟨g, 0, none⟩ = some (.int .u64 (r0 : Int)) := HS2.out.cell 0 rfl 0
      have n1 : wz.cell? ⟨g, 1, none⟩ = some (.int .u64 (r1 : Int)) := HS2.out.cell 0 rfl 1
      have n2 : wz.cell? ⟨g, 2, none⟩ = some (.int .u64 (r2 : Int)) := HS2.out.cell 0 rfl 2
      have n3 : wz.cell? ⟨g, 3, none⟩ = some (.int .u64 (r3 : Int)) := HS2.out.cell 0 rfl 3
      have n4 : wz.cell? ⟨g, 4, none⟩ = some (.int .u64 (r4 : Int)) := HS2.out.cell 0 rfl 4
      have f0 := HS2.out.free 0 rfl 0
      have f1 := HS2.out.free 0 rfl 1
      have f2 := HS2.out.free 0 rfl 2
      have f3 := HS2.out.free 0 rfl 3
      have f4 := HS2.out.free 0 rfl 4
      by_cases h5 : 5 ≤ i
      · have d5 : decide ((5 : Int) ≤ (i : Int)) = true := by simp; omega
        have HB := hide (pbit_hi less i h5)
        clear K0
        go_wp2_with (go_at_call 15; refine (mul_walk a b c d e r0 r1 r2 r3 r4 _ HA.out HRED2.out).mono ?_; rintro r w3 ⟨s0, s1, s2, s3, s4, hev3, hred3, rfl, hb3⟩; have hS3 := HS2.out.call hb3; have y0 : w3.cell? ⟨g, 0, none⟩ = some (.int .u64 (r0 : Int)) := hS3.cell 0 rfl 0; have y1 : w3.cell? ⟨g, 1, none⟩ = some (.int .u64 (r1 : Int)) := hS3.cell 0 rfl 1; have y2 : w3.cell? ⟨g, 2, none⟩ = some (.int .u64 (r2 : Int)) := hS3.cell 0 rfl 2; have y3 : w3.cell? ⟨g, 3, none⟩ = some (.int .u64 (r3 : Int)) := hS3.cell 0 rfl 3; have y4 : w3.cell? ⟨g, 4, none⟩ = some (.int .u64 (r4 : Int)) := hS3.cell 0 rfl 4; have u0 := hS3.free 0 rfl 0; have u1 := hS3.free 0 rfl 1; have u2 := hS3.free 0 rfl 2; have u3 := hS3.free 0 rfl 3; have u4 := hS3.free 0 rfl 4; have HEV3 := hide hev3; have HS3 := hide (((((hS3.setCell 0 rfl 0 (.int .u64 (s0 : Int))).setCell 0 rfl 1 (.int .u64 (s1 : Int))).setCell 0 rfl 2 (.int .u64 (s2 : Int))).setCell 0 rfl 3 (.int .u64 (s3 : Int))).setCell 0 rfl 4 (.int .u64 (s4 : Int))); clear hev3 n0 n1 n2 n3 n4 f0 f1 f2 f3 f4 hb2 g1)
        go_roundw
        case rel =>
          refine ⟨i, s0, s1, s2, s3, s4, by omega, rfl, hred3, ?_, HS3.out⟩
          have := HEV3.out
          rw [HEV2.out] at this
          rw [this]
          exact K1.out HB.out (Nat.mod_mod _ _)
        case measure => (simp [intOf]) <;> omega
      · have d5 : decide ((5 : Int) ≤ (i : Int)) = false := by simp; omega
        have hb : bits .and .u64 (((31 - less) / 2 ^ i : Nat) : Int) 1 = ((pbit less i : Nat) : Int) := by
          rw [pbit_lo less i (by omega)]
          exact odd_bit _ (Nat.lt_of_le_of_lt (Nat.div_le_self _ _) (by omega))
        have hcst : (((31 - less) / 2 ^ i : Nat) : Int) = (31 - (less : Int)) / 2 ^ i := by
          rw [Int.natCast_ediv, Int.natCast_sub hl, Int.natCast_pow]
          rfl
        rw [hcst] at hb
        clear hcst
        have h2i : pbit less i = 0 ∨ pbit less i = 1 := by rw [pbit_lo less i (by omega)]; omega
        rcases h2i with h0 | h0
        · have HB := hide h0
          rw [h0] at hb
          replace hb : bits .and .u64 ((31 - (less : Int)) / 2 ^ i) 1 = 0 := hb
          clear h0
          go_wp2_with fail
          go_roundw
          case rel => exact ⟨i, r0, r1, r2, r3, r4, by omega, rfl, HRED2.out, by rw [HEV2.out]; exact K0.out HB.out, HS2.out⟩
          case measure => (simp [intOf]) <;> omega
        · have HB := hide h0
          rw [h0] at hb
          replace hb : bits .and .u64 ((31 - (less : Int)) / 2 ^ i) 1 = 1 := hb
          clear h0 K0
          go_wp2_with (go_at_call 15; refine (mul_walk a b c d e r0 r1 r2 r3 r4 _ HA.out HRED2.out).mono ?_; rintro r w3 ⟨s0, s1, s2, s3, s4, hev3, hred3, rfl, hb3⟩; have hS3 := HS2.out.call hb3; have y0 : w3.cell? ⟨g, 0, none⟩ = some (.int .u64 (r0 : Int)) := hS3.cell 0 rfl 0; have y1 : w3.cell? ⟨g, 1, none⟩ = some (.int .u64 (r1 : Int)) := hS3.cell 0 rfl 1; have y2 : w3.cell? ⟨g, 2, none⟩ = some (.int .u64 (r2 : Int)) := hS3.cell 0 rfl 2; have y3 : w3.cell? ⟨g, 3, none⟩ = some (.int .u64 (r3 : Int)) := hS3.cell 0 rfl 3; have y4 : w3.cell? ⟨g, 4, none⟩ = some (.int .u64 (r4 : Int)) := hS3.cell 0 rfl 4; have u0 := hS3.free 0 rfl 0; have u1 := hS3.free 0 rfl 1; have u2 := hS3.free 0 rfl 2; have u3 := hS3.free 0 rfl 3; have u4 := hS3.free 0 rfl 4; have HEV3 := hide hev3; have HS3 := hide (((((hS3.setCell 0 rfl 0 (.int .u64 (s0 : Int))).setCell 0 rfl 1 (.int .u64 (s1 : Int))).setCell 0 rfl 2 (.int .u64 (s2 : Int))).setCell 0 rfl 3 (.int .u64 (s3 : Int))).setCell 0 rfl 4 (.int .u64 (s4 : Int))); clear hev3 n0 n1 n2 n3 n4 f0 f1 f2 f3 f4 hb2 g1)
          go_roundw
          case rel =>
            refine ⟨i, s0, s1, s2, s3, s4, by omega, rfl, hred3, ?_, HS3.out⟩
            have := HEV3.out
            rw [HEV2.out] at this
            rw [this]
            exact K1.out HB.out (Nat.mod_mod _ _)
          case measure => (simp [intOf]) <;> omega
end Go.Proofs.Ytdihedhhkcakoaa
