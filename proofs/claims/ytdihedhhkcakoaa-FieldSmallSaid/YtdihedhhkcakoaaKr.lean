/-
  Layer 2's contracts, said of the numbers that elements stand for.
-/
import Derived.Test.YtdihedhhkcakoaaKq
namespace Go.Proofs.Ytdihedhhkcakoaa
open Go.RowKit

instance : NeZero Pq := ⟨by unfold Pq; decide⟩
/-- The field. -/
abbrev FK : Type := Fin Pq
theorem pq_pos : 0 < Pq := by have := Pq_256.2; omega
@[irreducible] def finv (x : FK) : FK := ⟨x.val ^ (Pq - 2) % Pq, Nat.mod_lt _ pq_pos⟩
def fbytes (l : List UInt8) : FK := ⟨bval (fullL l) % Pq, Nat.mod_lt _ pq_pos⟩
theorem finv_val (x : FK) : (finv x).val = x.val ^ (Pq - 2) % Pq := by unfold finv; rfl
theorem fzero_val : (0 : FK).val = 0 := Nat.zero_mod _
theorem fadd_val (x y : FK) : (x + y).val = (x.val + y.val) % Pq := Fin.val_add x y
theorem fmul_val (x y : FK) : (x * y).val = x.val * y.val % Pq := Fin.val_mul x y
theorem fsub_val (x y : FK) : (x - y).val = (x.val + (Pq - y.val)) % Pq := by rw [Fin.sub_def]; show (Pq - y.val + x.val) % Pq = _; rw [Nat.add_comm]
theorem fneg_val (x : FK) : (-x).val = (Pq - x.val) % Pq := rfl
theorem inv_exp : pexp 255 20 255 = Pq - 2 := by unfold Pq; decide +kernel
set_option maxRecDepth 100000 in
set_option maxHeartbeats 800000 in
theorem inv_walk (a b c d e : Nat) (w : World) (ha : Red [a, b, c, d, e]) :
    Calls Try.prog 20 #[(.agg #[.int .u64 (a : Int), .int .u64 (b : Int), .int .u64 (c : Int), .int .u64 (d : Int), .int .u64 (e : Int)])] w fun r w' => ∃ p q s t u : Nat, ev [p, q, s, t, u] = ev [a, b, c, d, e] ^ (Pq - 2) % Pq ∧ Red [p, q, s, t, u] ∧ r = .returned (.agg #[.int .u64 (p : Int), .int .u64 (q : Int), .int .u64 (s : Int), .int .u64 (t : Int), .int .u64 (u : Int)]) ∧ Below w.heap.size w w' := by
  have HC := hide (fun W => power_walk a b c d e 255 20 W ha (by decide) (by decide) (by decide))
  rw [inv_exp] at HC
  have HSE := hide (((St.init w NoB).alloc #[.int .u64 (a : Int), .int .u64 (b : Int), .int .u64 (c : Int), .int .u64 (d : Int), .int .u64 (e : Int)] 27).alloc #[.int .u64 0, .int .u64 0, .int .u64 0, .int .u64 0, .int .u64 0] 27)
  rw [size_alloc1] at HSE
  clear ha
  go_enter Try.func20, Try.ntmps20
  go_wp2_with (go_at_call 35; refine (HC.out _).mono ?_; rintro r w2 ⟨r0, r1, r2, r3, r4, hev, hred, rfl, hb2⟩; have hS2 := HSE.out.call hb2; have z0 : w2.cell? ⟨w.heap.size + 1, 0, none⟩ = some (.int .u64 0) := hS2.cell 0 rfl 0; have z1 : w2.cell? ⟨w.heap.size + 1, 1, none⟩ = some (.int .u64 0) := hS2.cell 0 rfl 1; have z2 : w2.cell? ⟨w.heap.size + 1, 2, none⟩ = some (.int .u64 0) := hS2.cell 0 rfl 2; have z3 : w2.cell? ⟨w.heap.size + 1, 3, none⟩ = some (.int .u64 0) := hS2.cell 0 rfl 3; have z4 : w2.cell? ⟨w.heap.size + 1, 4, none⟩ = some (.int .u64 0) := hS2.cell 0 rfl 4; have y0 := hS2.free 0 rfl 0; have y1 := hS2.free 0 rfl 1; have y2 := hS2.free 0 rfl 2; have y3 := hS2.free 0 rfl 3; have y4 := hS2.free 0 rfl 4; have HEV := hide hev; clear hev)
  have HS := hide (((((hS2.setCell 0 rfl 0 (.int .u64 (r0 : Int))).setCell 0 rfl 1 (.int .u64 (r1 : Int))).setCell 0 rfl 2 (.int .u64 (r2 : Int))).setCell 0 rfl 3 (.int .u64 (r3 : Int))).setCell 0 rfl 4 (.int .u64 (r4 : Int)))
  refine bodyPost_ret (results_cell_row rfl _ _ (w.heap.size + 1) _ _ _ _ rfl (HS.out.heap 0 rfl) Try.underlying27 rfl (by kernel_rfl)) rfl ?_
  exact ⟨r0, r1, r2, r3, r4, HEV.out, hred, rfl, HS.out.below⟩
theorem addE {a b c d e a' b' c' d' e' : Nat} {X Y : FK} {w : World} (h : ev [a, b, c, d, e] = X.val) (r : Red [a, b, c, d, e]) (h' : ev [a', b', c', d', e'] = Y.val) (r' : Red [a', b', c', d', e']) :
    Calls Try.prog 16 #[(.agg #[.int .u64 (a : Int), .int .u64 (b : Int), .int .u64 (c : Int), .int .u64 (d : Int), .int .u64 (e : Int)]), (.agg #[.int .u64 (a' : Int), .int .u64 (b' : Int), .int .u64 (c' : Int), .int .u64 (d' : Int), .int .u64 (e' : Int)])] w fun r w' => ∃ p q s t u : Nat, ev [p, q, s, t, u] = (X + Y).val ∧ Red [p, q, s, t, u] ∧ r = .returned (.agg #[.int .u64 (p : Int), .int .u64 (q : Int), .int .u64 (s : Int), .int .u64 (t : Int), .int .u64 (u : Int)]) ∧ Below w.heap.size w w' := by
  rw [fadd_val, ← h, ← h']
  exact add_walk _ _ _ _ _ _ _ _ _ _ w r r'
theorem subE {a b c d e a' b' c' d' e' : Nat} {X Y : FK} {w : World} (h : ev [a, b, c, d, e] = X.val) (r : Red [a, b, c, d, e]) (h' : ev [a', b', c', d', e'] = Y.val) (r' : Red [a', b', c', d', e']) :
    Calls Try.prog 19 #[(.agg #[.int .u64 (a : Int), .int .u64 (b : Int), .int .u64 (c : Int), .int .u64 (d : Int), .int .u64 (e : Int)]), (.agg #[.int .u64 (a' : Int), .int .u64 (b' : Int), .int .u64 (c' : Int), .int .u64 (d' : Int), .int .u64 (e' : Int)])] w fun r w' => ∃ p q s t u : Nat, ev [p, q, s, t, u] = (X - Y).val ∧ Red [p, q, s, t, u] ∧ r = .returned (.agg #[.int .u64 (p : Int), .int .u64 (q : Int), .int .u64 (s : Int), .int .u64 (t : Int), .int .u64 (u : Int)]) ∧ Below w.heap.size w w' := by
  rw [fsub_val, ← h, ← h']
  exact sub_walk _ _ _ _ _ _ _ _ _ _ w r r'
theorem mulE {a b c d e a' b' c' d' e' : Nat} {X Y : FK} {w : World} (h : ev [a, b, c, d, e] = X.val) (r : Red [a, b, c, d, e]) (h' : ev [a', b', c', d', e'] = Y.val) (r' : Red [a', b', c', d', e']) :
    Calls Try.prog 15 #[(.agg #[.int .u64 (a : Int), .int .u64 (b : Int), .int .u64 (c : Int), .int .u64 (d : Int), .int .u64 (e : Int)]), (.agg #[.int .u64 (a' : Int), .int .u64 (b' : Int), .int .u64 (c' : Int), .int .u64 (d' : Int), .int .u64 (e' : Int)])] w fun r w' => ∃ p q s t u : Nat, ev [p, q, s, t, u] = (X * Y).val ∧ Red [p, q, s, t, u] ∧ r = .returned (.agg #[.int .u64 (p : Int), .int .u64 (q : Int), .int .u64 (s : Int), .int .u64 (t : Int), .int .u64 (u : Int)]) ∧ Below w.heap.size w w' := by
  rw [fmul_val, ← h, ← h']
  exact mul_walk _ _ _ _ _ _ _ _ _ _ w r r'
theorem negE {a b c d e : Nat} {X : FK} {w : World} (h : ev [a, b, c, d, e] = X.val) (r : Red [a, b, c, d, e]) :
    Calls Try.prog 18 #[(.agg #[.int .u64 (a : Int), .int .u64 (b : Int), .int .u64 (c : Int), .int .u64 (d : Int), .int .u64 (e : Int)])] w fun r w' => ∃ p q s t u : Nat, ev [p, q, s, t, u] = (-X).val ∧ Red [p, q, s, t, u] ∧ r = .returned (.agg #[.int .u64 (p : Int), .int .u64 (q : Int), .int .u64 (s : Int), .int .u64 (t : Int), .int .u64 (u : Int)]) ∧ Below w.heap.size w w' := by
  rw [fneg_val, ← h]
  exact neg_walk _ _ _ _ _ w r
theorem invE {a b c d e : Nat} {X : FK} {w : World} (h : ev [a, b, c, d, e] = X.val) (r : Red [a, b, c, d, e]) :
    Calls Try.prog 20 #[(.agg #[.int .u64 (a : Int), .int .u64 (b : Int), .int .u64 (c : Int), .int .u64 (d : Int), .int .u64 (e : Int)])] w fun r w' => ∃ p q s t u : Nat, ev [p, q, s, t, u] = (finv X).val ∧ Red [p, q, s, t, u] ∧ r = .returned (.agg #[.int .u64 (p : Int), .int .u64 (q : Int), .int .u64 (s : Int), .int .u64 (t : Int), .int .u64 (u : Int)]) ∧ Below w.heap.size w w' := by
  rw [finv_val, ← h]
  exact inv_walk _ _ _ _ _ w r
theorem sameE {a b c d e a' b' c' d' e' : Nat} {X Y : FK} {w : World} (h : ev [a, b, c, d, e] = X.val) (r : Red [a, b, c, d, e]) (h' : ev [a', b', c', d', e'] = Y.val) (r' : Red [a', b', c', d', e']) :
    Calls Try.prog 12 #[(.agg #[.int .u64 (a : Int), .int .u64 (b : Int), .int .u64 (c : Int), .int .u64 (d : Int), .int .u64 (e : Int)]), (.agg #[.int .u64 (a' : Int), .int .u64 (b' : Int), .int .u64 (c' : Int), .int .u64 (d' : Int), .int .u64 (e' : Int)])] w fun r w' => r = .returned (.bool (decide (X.val = Y.val))) ∧ Below w.heap.size w w' := by
  rw [← h, ← h']
  exact same_walk _ _ _ _ _ _ _ _ _ _ w (red_low r) (red_low r')
theorem sameT {a b c d e a' b' c' d' e' : Nat} {X Y : FK} {w : World} (h : ev [a, b, c, d, e] = X.val) (r : Red [a, b, c, d, e]) (h' : ev [a', b', c', d', e'] = Y.val) (r' : Red [a', b', c', d', e']) (e0 : X = Y) :
    Calls Try.prog 12 #[(.agg #[.int .u64 (a : Int), .int .u64 (b : Int), .int .u64 (c : Int), .int .u64 (d : Int), .int .u64 (e : Int)]), (.agg #[.int .u64 (a' : Int), .int .u64 (b' : Int), .int .u64 (c' : Int), .int .u64 (d' : Int), .int .u64 (e' : Int)])] w fun r w' => r = .returned (.bool true) ∧ Below w.heap.size w w' := by
  have := sameE (w := w) h r h' r'
  rw [decide_eq_true (congrArg Fin.val e0)] at this
  exact this
theorem zeroE {a b c d e : Nat} {X : FK} {w : World} (h : ev [a, b, c, d, e] = X.val) (r : Red [a, b, c, d, e]) :
    Calls Try.prog 13 #[(.agg #[.int .u64 (a : Int), .int .u64 (b : Int), .int .u64 (c : Int), .int .u64 (d : Int), .int .u64 (e : Int)])] w fun r w' => r = .returned (.bool (decide (X.val = 0))) ∧ Below w.heap.size w w' := by
  rw [← h]
  exact iszero_walk _ _ _ _ _ w (red_low r)
theorem zeroT {a b c d e : Nat} {X : FK} {w : World} (h : ev [a, b, c, d, e] = X.val) (r : Red [a, b, c, d, e]) (e0 : X = 0) :
    Calls Try.prog 13 #[(.agg #[.int .u64 (a : Int), .int .u64 (b : Int), .int .u64 (c : Int), .int .u64 (d : Int), .int .u64 (e : Int)])] w fun r w' => r = .returned (.bool true) ∧ Below w.heap.size w w' := by
  have := zeroE (w := w) h r
  rw [decide_eq_true (show X.val = 0 from e0 ▸ fzero_val)] at this
  exact this
theorem zeroF {a b c d e : Nat} {X : FK} {w : World} (h : ev [a, b, c, d, e] = X.val) (r : Red [a, b, c, d, e]) (e0 : X ≠ 0) :
    Calls Try.prog 13 #[(.agg #[.int .u64 (a : Int), .int .u64 (b : Int), .int .u64 (c : Int), .int .u64 (d : Int), .int .u64 (e : Int)])] w fun r w' => r = .returned (.bool false) ∧ Below w.heap.size w w' := by
  have := zeroE (w := w) h r
  rw [decide_eq_false (fun h => e0 (Fin.ext (h.trans fzero_val.symm)))] at this
  exact this
theorem oddE {a b c d e : Nat} {X : FK} {w : World} (h : ev [a, b, c, d, e] = X.val) (r : Red [a, b, c, d, e]) :
    Calls Try.prog 17 #[(.agg #[.int .u64 (a : Int), .int .u64 (b : Int), .int .u64 (c : Int), .int .u64 (d : Int), .int .u64 (e : Int)])] w fun r w' => r = .returned (.bool (decide (X.val % 2 = 1))) ∧ Below w.heap.size w w' := by
  rw [← h]
  exact isodd_walk _ _ _ _ _ w (red_low r)
theorem oddT {a b c d e : Nat} {X : FK} {w : World} (h : ev [a, b, c, d, e] = X.val) (r : Red [a, b, c, d, e]) (e0 : X.val % 2 = 1) :
    Calls Try.prog 17 #[(.agg #[.int .u64 (a : Int), .int .u64 (b : Int), .int .u64 (c : Int), .int .u64 (d : Int), .int .u64 (e : Int)])] w fun r w' => r = .returned (.bool true) ∧ Below w.heap.size w w' := by
  have := oddE (w := w) h r
  rw [decide_eq_true e0] at this
  exact this
theorem oddF {a b c d e : Nat} {X : FK} {w : World} (h : ev [a, b, c, d, e] = X.val) (r : Red [a, b, c, d, e]) (e0 : ¬ X.val % 2 = 1) :
    Calls Try.prog 17 #[(.agg #[.int .u64 (a : Int), .int .u64 (b : Int), .int .u64 (c : Int), .int .u64 (d : Int), .int .u64 (e : Int)])] w fun r w' => r = .returned (.bool false) ∧ Below w.heap.size w w' := by
  have := oddE (w := w) h r
  rw [decide_eq_false e0] at this
  exact this
theorem smallE (n : Nat) (w : World) (h : n < 4294967296) :
    Calls Try.prog 14 #[.int .u32 (n : Int)] w fun r w' => ∃ p q s t u : Nat, ev [p, q, s, t, u] = n ∧ Red [p, q, s, t, u] ∧ r = .returned (.agg #[.int .u64 (p : Int), .int .u64 (q : Int), .int .u64 (s : Int), .int .u64 (t : Int), .int .u64 (u : Int)]) ∧ Below w.heap.size w w' :=
  (small_walk n w h).mono fun r w' hr => ⟨n, 0, 0, 0, 0, ev_small n h, red_small n h, hr.1, hr.2⟩
theorem fromE {A : Option Addr} {n c : Nat} {l : List UInt8} {w : World} (hl : l.length = n) (hn : n ≤ 1000) (hr : Rd w (.slice A n c) 1 n (bvs l)) :
    Calls Try.prog 10 #[.slice A n c] w fun r w' => ∃ p q s t u : Nat, ev [p, q, s, t, u] = (fbytes l).val ∧ Red [p, q, s, t, u] ∧ r = .returned (.agg #[.int .u64 (p : Int), .int .u64 (q : Int), .int .u64 (s : Int), .int .u64 (t : Int), .int .u64 (u : Int)]) ∧ Below w.heap.size w w' := from_walk A n c l w hl hn hr
theorem enEAdd (args : Array Value) (w : World) : (callFunc 16 args).run Try.prog w = .ok (.enter 16 args) w := by kernel_rfl
theorem enESub (args : Array Value) (w : World) : (callFunc 19 args).run Try.prog w = .ok (.enter 19 args) w := by kernel_rfl
theorem enEMul (args : Array Value) (w : World) : (callFunc 15 args).run Try.prog w = .ok (.enter 15 args) w := by kernel_rfl
theorem enENeg (args : Array Value) (w : World) : (callFunc 18 args).run Try.prog w = .ok (.enter 18 args) w := by kernel_rfl
theorem enEInv (args : Array Value) (w : World) : (callFunc 20 args).run Try.prog w = .ok (.enter 20 args) w := by kernel_rfl
theorem enEIsOdd (args : Array Value) (w : World) : (callFunc 17 args).run Try.prog w = .ok (.enter 17 args) w := by kernel_rfl
end Go.Proofs.Ytdihedhhkcakoaa
