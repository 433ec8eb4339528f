/-
  The walk of FieldSmall.
-/
import Derived.Test.YtdihedhhkcakoaaFm
import Derived.Test.YtdihedhhkcakoaaTy
namespace Go.Proofs.Ytdihedhhkcakoaa
open Go.RowKit
set_option linter.unusedSimpArgs false

theorem wp_region_FN {P : Program} {ops : Array Oper} {Q : Exit → Act → World → Prop} {id : Nat} {a : Act} {w : World} (n : Nat) (l : Array Bool) (hm : P.follows .mixedOrders = true) (hn : ops.size = n) (hl : Array.replicate n false = l)
    (h : wpG P .any ops Q n (From w.drew) l a w.drew) : (Code.region id ops true).wp P Q a w := by
  subst hn hl
  exact wp_region_F hm h
def fsm (n : Nat) : FK := ⟨n % Pq, Nat.mod_lt _ pq_pos⟩
theorem fsm_val (n : Nat) (h : n < 4294967296) : (fsm n).val = n := Nat.mod_eq_of_lt (Nat.lt_trans h (by unfold Pq; decide))
theorem fsm_add (n m : Nat) : fsm n + fsm m = fsm (n + m) := Fin.ext (by rw [fadd_val]; exact (Nat.add_mod _ _ _).symm)
theorem fsm_mul (n m : Nat) : fsm n * fsm m = fsm (n * m) := Fin.ext (by rw [fmul_val]; exact (Nat.mul_mod _ _ _).symm)
theorem smallK (n : Nat) (w : World) (h : n < 4294967296) :
    Calls Try.prog 14 #[.int .u32 (n : Int)] w fun r w' => ∃ p q s t u : Nat, ev [p, q, s, t, u] = (fsm n).val ∧ Red [p, q, s, t, u] ∧ r = .returned (.agg #[.int .u64 (p : Int), .int .u64 (q : Int), .int .u64 (s : Int), .int .u64 (t : Int), .int .u64 (u : Int)]) ∧ Below w.heap.size w w' := by
  rw [fsm_val n h]
  exact smallE n w h
theorem or_add32 (k x y : Nat) (hx : x < 2 ^ k) (h : x + y * 2 ^ k < 4294967296) : bits .or .u32 (x : Int) ((y * 2 ^ k : Nat) : Int) = ((x + y * 2 ^ k : Nat) : Int) := by
  rw [u32_or_nat _ _ (by omega) (by omega), Nat.or_comm, Nat.mul_comm y, ← Nat.two_pow_add_eq_or_of_lt hx, Nat.add_comm]
theorem or_add32' (k T x y z : Nat) (hT : 2 ^ k = T) (hx : x < T) (hd : y = y / T * T) (h : x + y < 4294967296) (hz : z = x + y) : bits .or .u32 (x : Int) (y : Int) = (z : Int) := by
  subst hT
  have := or_add32 k x (y / 2 ^ k) hx (by rw [← hd]; exact h)
  rw [← hd, ← hz] at this
  exact this
theorem four_bytes (P : Nat) (h : P < 4294967296) : ∃ t0 t1 t2 t3 y1 y2 y3 x1 x2 : Nat, (t0 = P / 256 ^ 0 % 256 ∧ t1 = P / 256 ^ 1 % 256 ∧ t2 = P / 256 ^ 2 % 256 ∧ t3 = P / 256 ^ 3 % 256) ∧
    (IntKind.u32.wrap (t0 : Int) = t0 ∧ IntKind.u32.wrap (t1 : Int) = t1 ∧ IntKind.u32.wrap (t2 : Int) = t2 ∧ IntKind.u32.wrap (t3 : Int) = t3) ∧
    (IntKind.u32.wrap ((t1 : Int) * 256) = y1 ∧ IntKind.u32.wrap ((t2 : Int) * 65536) = y2 ∧ IntKind.u32.wrap ((t3 : Int) * 16777216) = y3) ∧
    (bits .or .u32 (t0 : Int) (y1 : Int) = (x1 : Int) ∧ bits .or .u32 (x1 : Int) (y2 : Int) = (x2 : Int) ∧ bits .or .u32 (x2 : Int) (y3 : Int) = (P : Int)) := by
  have e : P = P % 256 + P / 256 % 256 * 256 + P / 65536 % 256 * 65536 + P / 16777216 % 256 * 16777216 := by omega
  obtain ⟨t0, h0⟩ : ∃ t, t = P % 256 := ⟨_, rfl⟩
  obtain ⟨t1, h1⟩ : ∃ t, t = P / 256 % 256 := ⟨_, rfl⟩
  obtain ⟨t2, h2⟩ : ∃ t, t = P / 65536 % 256 := ⟨_, rfl⟩
  obtain ⟨t3, h3⟩ : ∃ t, t = P / 16777216 % 256 := ⟨_, rfl⟩
  have l0 : t0 < 256 := by omega
  have l1 : t1 < 256 := by omega
  have l2 : t2 < 256 := by omega
  have l3 : t3 < 256 := by omega
  rw [← h0, ← h1, ← h2, ← h3] at e
  refine ⟨t0, t1, t2, t3, t1 * 256, t2 * 65536, t3 * 16777216, t0 + t1 * 256, t0 + t1 * 256 + t2 * 65536, ⟨?_, ?_, ?_, ?_⟩, ⟨?_, ?_, ?_, ?_⟩, ⟨?_, ?_, ?_⟩, ?_, ?_, ?_⟩
  · rw [h0, Nat.pow_zero, Nat.div_one]
  · rw [h1, Nat.pow_one]
  · rw [h2]
  · rw [h3]
  · rw [IntKind.wrap_u32]; omega
  · rw [IntKind.wrap_u32]; omega
  · rw [IntKind.wrap_u32]; omega
  · rw [IntKind.wrap_u32]; omega
  · rw [IntKind.wrap_u32]; omega
  · rw [IntKind.wrap_u32]; omega
  · rw [IntKind.wrap_u32]; omega
  · exact or_add32' 8 256 t0 (t1 * 256) _ rfl (by omega) (by omega) (by omega) rfl
  · exact or_add32' 16 65536 (t0 + t1 * 256) (t2 * 65536) _ rfl (by omega) (by omega) (by omega) rfl
  · exact or_add32' 24 16777216 (t0 + t1 * 256 + t2 * 65536) (t3 * 16777216) _ rfl (by omega) (by omega) (by omega) e
theorem and_odd32 (n : Nat) (h : n < 4294967296) : bits .and .u32 (n : Int) 1 = ((n % 2 : Nat) : Int) := by
  have e : n &&& 1 = n % 2 := Nat.and_two_pow_sub_one_eq_mod n 1
  rw [← e]
  exact u32_and_nat n 1 h (by omega)
theorem and_low32 (n : Nat) (h : n < 4294967296) : bits .and .u32 (n : Int) 65535 = ((n % 65536 : Nat) : Int) := by
  have e : n &&& 65535 = n % 65536 := Nat.and_two_pow_sub_one_eq_mod n 16
  rw [← e]
  exact u32_and_nat n 65535 h (by omega)
section
variable {a b c d e a' b' c' d' e' : Nat} {X Y : FK} {w : World} {B : Bool}
theorem oddB (h : ev [a, b, c, d, e] = X.val) (r : Red [a, b, c, d, e]) (e0 : decide (X.val % 2 = 1) = B) :
    Calls Try.prog 17 #[(.agg #[.int .u64 (a : Int), .int .u64 (b : Int), .int .u64 (c : Int), .int .u64 (d : Int), .int .u64 (e : Int)])] w fun r w' => r = .returned (.bool B) ∧ Below w.heap.size w w' := by
  rw [← e0]; exact oddE h r
theorem zeroB (h : ev [a, b, c, d, e] = X.val) (r : Red [a, b, c, d, e]) (e0 : decide (X.val = 0) = B) :
    Calls Try.prog 13 #[(.agg #[.int .u64 (a : Int), .int .u64 (b : Int), .int .u64 (c : Int), .int .u64 (d : Int), .int .u64 (e : Int)])] w fun r w' => r = .returned (.bool B) ∧ Below w.heap.size w w' := by
  rw [← e0]; exact zeroE h r
theorem sameB (h : ev [a, b, c, d, e] = X.val) (r : Red [a, b, c, d, e]) (h' : ev [a', b', c', d', e'] = Y.val) (r' : Red [a', b', c', d', e']) (e0 : decide (X.val = Y.val) = B) :
    Calls Try.prog 12 #[(.agg #[.int .u64 (a : Int), .int .u64 (b : Int), .int .u64 (c : Int), .int .u64 (d : Int), .int .u64 (e : Int)]), (.agg #[.int .u64 (a' : Int), .int .u64 (b' : Int), .int .u64 (c' : Int), .int .u64 (d' : Int), .int .u64 (e' : Int)])] w fun r w' => r = .returned (.bool B) ∧ Below w.heap.size w w' := by
  rw [← e0]; exact sameE h r h' r'
end
set_option maxRecDepth 100000 in
set_option maxHeartbeats 8000000 in
theorem fieldSmall_walk (n m : Nat) (w : World) (hn : n < 4294967296) (hm : m < 4294967296) :
    Calls Try.prog 4 #[.int .u32 (n : Int), .int .u32 (m : Int)] w fun e w' => e = .returned (.bool true) ∧ Below w.heap.size w w' := by
  have a1 := and_low32 n hn
  have a2 := and_low32 m hm
  have hN : n % 65536 < 65536 := Nat.mod_lt _ (by decide)
  have hM : m % 65536 < 65536 := Nat.mod_lt _ (by decide)
  generalize n % 65536 = N at *
  generalize m % 65536 = M at *
  have HN := hide hN
  have HM := hide hM
  obtain ⟨P, hP⟩ : ∃ P, P = N * M := ⟨_, rfl⟩
  have hPle : P < 4294967296 := by
    have : N * M ≤ 65535 * 65535 := Nat.mul_le_mul (by omega) (by omega)
    omega
  have HP := hide hP
  have HPL := hide hPle
  clear hP hPle hN hM
  go_enter Try.func4, Try.ntmps4
  go_upto_region 4 with (first
    | (have _q := hb3; go_at_call 11; refine (bytes32 _ _ _ _ _ _ (red_low hd3)).mono ?_; rintro r w4 ⟨B, d, rfl, hb4, hr4⟩; rw [hv3, fsm_mul, ← HP.out, fsm_val P HPL.out] at hr4)
    | (have _q := hb2; go_at_call 15; refine (mulE hv1 hd1 hv2 hd2).mono ?_; rintro r w3 ⟨a3, b3, c3, e3, f3, hv3, hd3, rfl, hb3⟩)
    | (have _q := hb1; go_at_call 14; refine (smallK M _ (by have := HM.out; omega)).mono ?_; rintro r w2 ⟨a2, b2, c2, e2, f2, hv2, hd2, rfl, hb2⟩)
    | (go_at_call 14; refine (smallK N _ (by have := HN.out; omega)).mono ?_; rintro r w1 ⟨a1, b1, c1, e1, f1, hv1, hd1, rfl, hb1⟩))
  obtain ⟨b, o, rfl⟩ : ∃ b o, B = some ⟨b, o, none⟩ := by
    rcases hr4.cases with ⟨_, h0, _⟩ | ⟨b, o, sp, c', hv, _, _, _, _, h4, _⟩
    · cases h0
    · injection hv with hv1 _ _
      have := h4 (by decide)
      subst this hv1
      exact ⟨b, o, rfl⟩
  have RB := hide (show Rd w4.drew _ _ _ _ from hr4)
  clear hr4
  have WS := (((((((St.init w NoB).call hb1).call hb2).alloc #[.int .u64 (a1 : Int), .int .u64 (b1 : Int), .int .u64 (c1 : Int), .int .u64 (e1 : Int), .int .u64 (f1 : Int)] 27).alloc #[.int .u64 (a2 : Int), .int .u64 (b2 : Int), .int .u64 (c2 : Int), .int .u64 (e2 : Int), .int .u64 (f2 : Int)] 27).call hb3).call hb4)
  try simp only [size_alloc1] at WS
  have WH := hide WS
  clear WS
  obtain ⟨t0, t1, t2, t3, y1, y2, y3, x1, x2, ⟨hb_0, hb_1, hb_2, hb_3⟩, ⟨cw0, cw1, cw2, cw3⟩, ⟨s1, s2, s3⟩, o1, o2, o3⟩ := four_bytes P HPL.out
  have cb0 : ∀ z, From w4.drew z → z.cell? ⟨b, o, none⟩ = some (.int .u8 (t0 : Int)) := fun z hz => by
    have h := bvs_get (leB_get 32 P 0 (by omega))
    rw [UInt8.toNat_ofNat', ← hb_0, Nat.mod_eq_of_lt (show t0 < 2 ^ 8 by rw [hb_0]; exact Nat.mod_lt _ (by decide))] at h
    exact rd_at (RB.out.below hz) h
  have cb1 : ∀ z, From w4.drew z → z.cell? ⟨b, o + 1, none⟩ = some (.int .u8 (t1 : Int)) := fun z hz => by
    have h := bvs_get (leB_get 32 P 1 (by omega))
    rw [UInt8.toNat_ofNat', ← hb_1, Nat.mod_eq_of_lt (show t1 < 2 ^ 8 by rw [hb_1]; exact Nat.mod_lt _ (by decide))] at h
    exact rd_at (RB.out.below hz) h
  have cb2 : ∀ z, From w4.drew z → z.cell? ⟨b, o + 2, none⟩ = some (.int .u8 (t2 : Int)) := fun z hz => by
    have h := bvs_get (leB_get 32 P 2 (by omega))
    rw [UInt8.toNat_ofNat', ← hb_2, Nat.mod_eq_of_lt (show t2 < 2 ^ 8 by rw [hb_2]; exact Nat.mod_lt _ (by decide))] at h
    exact rd_at (RB.out.below hz) h
  have cb3 : ∀ z, From w4.drew z → z.cell? ⟨b, o + 3, none⟩ = some (.int .u8 (t3 : Int)) := fun z hz => by
    have h := bvs_get (leB_get 32 P 3 (by omega))
    rw [UInt8.toNat_ofNat', ← hb_3, Nat.mod_eq_of_lt (show t3 < 2 ^ 8 by rw [hb_3]; exact Nat.mod_lt _ (by decide))] at h
    exact rd_at (RB.out.below hz) h
  clear hb_0 hb_1 hb_2 hb_3
  have hmul : IntKind.u32.wrap ((N : Int) * (M : Int)) = (P : Int) := by rw [IntKind.wrap_u32, ← Int.natCast_mul, ← HP.out]; have := HPL.out; omega
  have hadd : IntKind.u32.wrap ((N : Int) + (M : Int)) = ((N + M : Nat) : Int) := by rw [IntKind.wrap_u32]; have := HN.out; have := HM.out; omega
  have hodd := and_odd32 N (by have := HN.out; omega)
  obtain ⟨B1, hB1⟩ : ∃ B, decide ((fsm N).val % 2 = 1) = B := ⟨_, rfl⟩
  obtain ⟨B2, hB2⟩ : ∃ B, decide ((fsm N).val = 0) = B := ⟨_, rfl⟩
  obtain ⟨B3, hB3⟩ : ∃ B, decide ((fsm N).val = (fsm M).val) = B := ⟨_, rfl⟩
  have q1 : (((N % 2 : Nat) : Int) == 1) = B1 := by rw [← hB1, fsm_val N (by have := HN.out; omega), Bool.eq_iff_iff]; simp; omega
  have q2 : ((N : Int) == 0) = B2 := by rw [← hB2, fsm_val N (by have := HN.out; omega), Bool.eq_iff_iff]; simp
  have q3 : ((N : Int) == (M : Int)) = B3 := by rw [← hB3, fsm_val N (by have := HN.out; omega), fsm_val M (by have := HM.out; omega), Bool.eq_iff_iff]; simp; omega
  have G1 := hide hB1
  have G2 := hide hB2
  have G3 := hide hB3
  clear hB1 hB2 hB3
  generalize N % 2 = N2 at *
  have HS := hide WH.out.drew
  have F0 : From w4.drew w4.drew := From.refl _
  simp only [List.append_eq, List.cons_append, List.nil_append]
  refine wp_region_T [(0, 1), (1, 1), (2, 1), (3, 1), (4, 1), (5, 1), (6, 0), (7, 0), (8, 1), (9, 1), (10, 0), (11, 0), (12, 1), (13, 1), (14, 1), (15, 1), (16, 0), (17, 0), (18, 1), (19, 1), (20, 1), (21, 1), (22, 0), (23, 0), (24, 1), (25, 1), (26, 1), (27, 1), (28, 1), (29, 1), (30, 1), (31, 1), (32, 0), (33, 0), (35, 1), (36, 1), (37, 1), (34, 2), (38, 2), (39, 2), (40, 1), (41, 1), (42, 0), (44, 1), (45, 1), (46, 1), (43, 2), (47, 1), (48, 1), (49, 1), (50, 0), (52, 1), (53, 1), (51, 2), (54, 1), (55, 1), (56, 1), (57, 0), (58, 0), (60, 1), (61, 1), (62, 1), (59, 2), (63, 1), (64, 1), (65, 1), (66, 2), (67, 1), (68, 1)] (by kernel_rfl) (by kernel_rfl) (fun _ _ _ _ h => h) ?_
  generalize w4.drew = w5 at HS F0 cb0 cb1 cb2 cb3 ⊢
  (refine wpT_pure (v := ?_) rfl (by kernel_rfl) ?_ ?_; rotate_left; (intro wx; go_simp; try go_bits) <;> (with_reducible rfl)); (try simp only [Act.put, List.setIfInBounds_toArray, List.set_cons_zero, List.set_cons_succ, List.getElem_toArray, List.getElem_cons_succ, List.getElem_cons_zero])
  (refine wpT_pure (v := ?_) rfl (by kernel_rfl) ?_ ?_; rotate_left; (intro wx; go_simp; try go_bits) <;> (with_reducible rfl)); (try simp only [Act.put, List.setIfInBounds_toArray, List.set_cons_zero, List.set_cons_succ, List.getElem_toArray, List.getElem_cons_succ, List.getElem_cons_zero])
  (refine wpT_pure (v := ?_) rfl (by kernel_rfl) ?_ ?_; rotate_left; (intro wx; go_simp; try go_bits) <;> (with_reducible rfl)); (try simp only [Act.put, List.setIfInBounds_toArray, List.set_cons_zero, List.set_cons_succ, List.getElem_toArray, List.getElem_cons_succ, List.getElem_cons_zero])
  (refine wpT_pure (v := ?_) rfl (by kernel_rfl) ?_ ?_; rotate_left; (intro wx; go_simp; try go_bits) <;> (with_reducible rfl)); (try simp only [Act.put, List.setIfInBounds_toArray, List.set_cons_zero, List.set_cons_succ, List.getElem_toArray, List.getElem_cons_succ, List.getElem_cons_zero])
  (refine wpT_pure (v := ?_) rfl (by kernel_rfl) ?_ ?_; rotate_left; (intro wx; go_simp; try go_bits) <;> (with_reducible rfl)); (try simp only [Act.put, List.setIfInBounds_toArray, List.set_cons_zero, List.set_cons_succ, List.getElem_toArray, List.getElem_cons_succ, List.getElem_cons_zero])
  (refine wpT_pure (v := ?_) rfl (by kernel_rfl) ?_ ?_; rotate_left; (intro wx; go_simp; try go_bits) <;> (with_reducible rfl)); (try simp only [Act.put, List.setIfInBounds_toArray, List.set_cons_zero, List.set_cons_succ, List.getElem_toArray, List.getElem_cons_succ, List.getElem_cons_zero])
  (refine wpT_load (v := ?_) rfl rfl (by kernel_rfl) ?_ ?_; rotate_left; (go_simp; try go_bits) <;> (with_reducible rfl)); (try simp only [Act.put, List.setIfInBounds_toArray, List.set_cons_zero, List.set_cons_succ, List.getElem_toArray, List.getElem_cons_succ, List.getElem_cons_zero])
  (refine wpT_read (v := ?_) rfl (by kernel_rfl) ?_ ?_; rotate_left; (intro wx hx; go_simp; try go_bits) <;> (with_reducible rfl)); (try simp only [Act.put, List.setIfInBounds_toArray, List.set_cons_zero, List.set_cons_succ, List.getElem_toArray, List.getElem_cons_succ, List.getElem_cons_zero])
  (refine wpT_pure (v := ?_) rfl (by kernel_rfl) ?_ ?_; rotate_left; (intro wx; go_simp; try go_bits) <;> (with_reducible rfl)); (try simp only [Act.put, List.setIfInBounds_toArray, List.set_cons_zero, List.set_cons_succ, List.getElem_toArray, List.getElem_cons_succ, List.getElem_cons_zero])
  (refine wpT_pure (v := ?_) rfl (by kernel_rfl) ?_ ?_; rotate_left; (intro wx; go_simp; try go_bits) <;> (with_reducible rfl)); (try simp only [Act.put, List.setIfInBounds_toArray, List.set_cons_zero, List.set_cons_succ, List.getElem_toArray, List.getElem_cons_succ, List.getElem_cons_zero])
  (refine wpT_load (v := ?_) rfl rfl (by kernel_rfl) ?_ ?_; rotate_left; (go_simp; try go_bits) <;> (with_reducible rfl)); (try simp only [Act.put, List.setIfInBounds_toArray, List.set_cons_zero, List.set_cons_succ, List.getElem_toArray, List.getElem_cons_succ, List.getElem_cons_zero])
  (refine wpT_read (v := ?_) rfl (by kernel_rfl) ?_ ?_; rotate_left; (intro wx hx; go_simp; try go_bits) <;> (with_reducible rfl)); (try simp only [Act.put, List.setIfInBounds_toArray, List.set_cons_zero, List.set_cons_succ, List.getElem_toArray, List.getElem_cons_succ, List.getElem_cons_zero])
  (refine wpT_pure (v := ?_) rfl (by kernel_rfl) ?_ ?_; rotate_left; (intro wx; go_simp; try go_bits) <;> (with_reducible rfl)); (try simp only [Act.put, List.setIfInBounds_toArray, List.set_cons_zero, List.set_cons_succ, List.getElem_toArray, List.getElem_cons_succ, List.getElem_cons_zero])
  (refine wpT_pure (v := ?_) rfl (by kernel_rfl) ?_ ?_; rotate_left; (intro wx; go_simp; try go_bits) <;> (with_reducible rfl)); (try simp only [Act.put, List.setIfInBounds_toArray, List.set_cons_zero, List.set_cons_succ, List.getElem_toArray, List.getElem_cons_succ, List.getElem_cons_zero])
  (refine wpT_pure (v := ?_) rfl (by kernel_rfl) ?_ ?_; rotate_left; (intro wx; go_simp; try go_bits) <;> (with_reducible rfl)); (try simp only [Act.put, List.setIfInBounds_toArray, List.set_cons_zero, List.set_cons_succ, List.getElem_toArray, List.getElem_cons_succ, List.getElem_cons_zero])
  (refine wpT_pure (v := ?_) rfl (by kernel_rfl) ?_ ?_; rotate_left; (intro wx; go_simp; try go_bits) <;> (with_reducible rfl)); (try simp only [Act.put, List.setIfInBounds_toArray, List.set_cons_zero, List.set_cons_succ, List.getElem_toArray, List.getElem_cons_succ, List.getElem_cons_zero])
  (refine wpT_load (v := ?_) rfl rfl (by kernel_rfl) ?_ ?_; rotate_left; (go_simp; try go_bits) <;> (with_reducible rfl)); (try simp only [Act.put, List.setIfInBounds_toArray, List.set_cons_zero, List.set_cons_succ, List.getElem_toArray, List.getElem_cons_succ, List.getElem_cons_zero])
  (refine wpT_read (v := ?_) rfl (by kernel_rfl) ?_ ?_; rotate_left; (intro wx hx; go_simp; try go_bits) <;> (with_reducible rfl)); (try simp only [Act.put, List.setIfInBounds_toArray, List.set_cons_zero, List.set_cons_succ, List.getElem_toArray, List.getElem_cons_succ, List.getElem_cons_zero])
  (refine wpT_pure (v := ?_) rfl (by kernel_rfl) ?_ ?_; rotate_left; (intro wx; go_simp; try go_bits) <;> (with_reducible rfl)); (try simp only [Act.put, List.setIfInBounds_toArray, List.set_cons_zero, List.set_cons_succ, List.getElem_toArray, List.getElem_cons_succ, List.getElem_cons_zero])
  (refine wpT_pure (v := ?_) rfl (by kernel_rfl) ?_ ?_; rotate_left; (intro wx; go_simp; try go_bits) <;> (with_reducible rfl)); (try simp only [Act.put, List.setIfInBounds_toArray, List.set_cons_zero, List.set_cons_succ, List.getElem_toArray, List.getElem_cons_succ, List.getElem_cons_zero])
  (refine wpT_pure (v := ?_) rfl (by kernel_rfl) ?_ ?_; rotate_left; (intro wx; go_simp; try go_bits) <;> (with_reducible rfl)); (try simp only [Act.put, List.setIfInBounds_toArray, List.set_cons_zero, List.set_cons_succ, List.getElem_toArray, List.getElem_cons_succ, List.getElem_cons_zero])
  (refine wpT_pure (v := ?_) rfl (by kernel_rfl) ?_ ?_; rotate_left; (intro wx; go_simp; try go_bits) <;> (with_reducible rfl)); (try simp only [Act.put, List.setIfInBounds_toArray, List.set_cons_zero, List.set_cons_succ, List.getElem_toArray, List.getElem_cons_succ, List.getElem_cons_zero])
  (refine wpT_load (v := ?_) rfl rfl (by kernel_rfl) ?_ ?_; rotate_left; (go_simp; try go_bits) <;> (with_reducible rfl)); (try simp only [Act.put, List.setIfInBounds_toArray, List.set_cons_zero, List.set_cons_succ, List.getElem_toArray, List.getElem_cons_succ, List.getElem_cons_zero])
  (refine wpT_read (v := ?_) rfl (by kernel_rfl) ?_ ?_; rotate_left; (intro wx hx; go_simp; try go_bits) <;> (with_reducible rfl)); (try simp only [Act.put, List.setIfInBounds_toArray, List.set_cons_zero, List.set_cons_succ, List.getElem_toArray, List.getElem_cons_succ, List.getElem_cons_zero])
  (refine wpT_pure (v := ?_) rfl (by kernel_rfl) ?_ ?_; rotate_left; (intro wx; go_simp; try go_bits) <;> (with_reducible rfl)); (try simp only [Act.put, List.setIfInBounds_toArray, List.set_cons_zero, List.set_cons_succ, List.getElem_toArray, List.getElem_cons_succ, List.getElem_cons_zero])
  (refine wpT_pure (v := ?_) rfl (by kernel_rfl) ?_ ?_; rotate_left; (intro wx; go_simp; try go_bits) <;> (with_reducible rfl)); (try simp only [Act.put, List.setIfInBounds_toArray, List.set_cons_zero, List.set_cons_succ, List.getElem_toArray, List.getElem_cons_succ, List.getElem_cons_zero])
  (refine wpT_pure (v := ?_) rfl (by kernel_rfl) ?_ ?_; rotate_left; (intro wx; go_simp; try go_bits) <;> (with_reducible rfl)); (try simp only [Act.put, List.setIfInBounds_toArray, List.set_cons_zero, List.set_cons_succ, List.getElem_toArray, List.getElem_cons_succ, List.getElem_cons_zero])
  (refine wpT_pure (v := ?_) rfl (by kernel_rfl) ?_ ?_; rotate_left; (intro wx; go_simp; try go_bits) <;> (with_reducible rfl)); (try simp only [Act.put, List.setIfInBounds_toArray, List.set_cons_zero, List.set_cons_succ, List.getElem_toArray, List.getElem_cons_succ, List.getElem_cons_zero])
  (refine wpT_pure (v := ?_) rfl (by kernel_rfl) ?_ ?_; rotate_left; (intro wx; go_simp; try go_bits) <;> (with_reducible rfl)); (try simp only [Act.put, List.setIfInBounds_toArray, List.set_cons_zero, List.set_cons_succ, List.getElem_toArray, List.getElem_cons_succ, List.getElem_cons_zero])
  (refine wpT_pure (v := ?_) rfl (by kernel_rfl) ?_ ?_; rotate_left; (intro wx; go_simp; try go_bits) <;> (with_reducible rfl)); (try simp only [Act.put, List.setIfInBounds_toArray, List.set_cons_zero, List.set_cons_succ, List.getElem_toArray, List.getElem_cons_succ, List.getElem_cons_zero])
  (refine wpT_pure (v := ?_) rfl (by kernel_rfl) ?_ ?_; rotate_left; (intro wx; go_simp; try go_bits) <;> (with_reducible rfl)); (try simp only [Act.put, List.setIfInBounds_toArray, List.set_cons_zero, List.set_cons_succ, List.getElem_toArray, List.getElem_cons_succ, List.getElem_cons_zero])
  (refine wpT_pure (v := ?_) rfl (by kernel_rfl) ?_ ?_; rotate_left; (intro wx; go_simp; try go_bits) <;> (with_reducible rfl)); (try simp only [Act.put, List.setIfInBounds_toArray, List.set_cons_zero, List.set_cons_succ, List.getElem_toArray, List.getElem_cons_succ, List.getElem_cons_zero])
  refine wpT_loadRow rfl rfl (by kernel_rfl) HS.out 1 rfl rfl Try.underlying27 rfl (by kernel_rfl) ?_; (try simp only [Act.put, List.setIfInBounds_toArray, List.set_cons_zero, List.set_cons_succ, List.getElem_toArray, List.getElem_cons_succ, List.getElem_cons_zero])
  refine wpT_loadRow rfl rfl (by kernel_rfl) HS.out 0 rfl rfl Try.underlying27 rfl (by kernel_rfl) ?_; (try simp only [Act.put, List.setIfInBounds_toArray, List.set_cons_zero, List.set_cons_succ, List.getElem_toArray, List.getElem_cons_succ, List.getElem_cons_zero])
  (refine wpT_pure (v := ?_) rfl (by kernel_rfl) ?_ ?_; rotate_left; (intro wx; go_simp; try go_bits) <;> (with_reducible rfl)); (try simp only [Act.put, List.setIfInBounds_toArray, List.set_cons_zero, List.set_cons_succ, List.getElem_toArray, List.getElem_cons_succ, List.getElem_cons_zero])
  (refine wpT_pure (v := ?_) rfl (by kernel_rfl) ?_ ?_; rotate_left; (intro wx; go_simp; try go_bits) <;> (with_reducible rfl)); (try simp only [Act.put, List.setIfInBounds_toArray, List.set_cons_zero, List.set_cons_succ, List.getElem_toArray, List.getElem_cons_succ, List.getElem_cons_zero])
  (refine wpT_pure (v := ?_) rfl (by kernel_rfl) ?_ ?_; rotate_left; (intro wx; go_simp; try go_bits) <;> (with_reducible rfl)); (try simp only [Act.put, List.setIfInBounds_toArray, List.set_cons_zero, List.set_cons_succ, List.getElem_toArray, List.getElem_cons_succ, List.getElem_cons_zero])
  refine wpT_callF rfl (by kernel_rfl) rfl enEAdd rfl (addE hv1 hd1 hv2 hd2) ?_
  rintro r x0 ⟨a5, b5, c5, e5, f5, hv5, hd5, rfl, hb⟩
  refine ⟨_, rfl, hb, ?_⟩
  have HS := hide (HS.out.call hb); clear hb
  (try simp only [Act.put, List.setIfInBounds_toArray, List.set_cons_zero, List.set_cons_succ, List.getElem_toArray, List.getElem_cons_succ, List.getElem_cons_zero])
  refine wpT_callF rfl (by kernel_rfl) rfl enSmall rfl (smallK (N + M) _ (by have := HN.out; have := HM.out; omega)) ?_
  rintro r x1 ⟨a6, b6, c6, e6, f6, hv6, hd6, rfl, hb⟩
  refine ⟨_, rfl, hb, ?_⟩
  have HS := hide (HS.out.call hb); clear hb
  (try simp only [Act.put, List.setIfInBounds_toArray, List.set_cons_zero, List.set_cons_succ, List.getElem_toArray, List.getElem_cons_succ, List.getElem_cons_zero])
  refine wpT_callF rfl (by kernel_rfl) rfl enSame rfl (sameT hv5 hd5 hv6 hd6 (fsm_add N M)) ?_
  rintro r x2 ⟨rfl, hb⟩
  refine ⟨_, rfl, hb, ?_⟩
  have HS := hide (HS.out.call hb); clear hb
  (try simp only [Act.put, List.setIfInBounds_toArray, List.set_cons_zero, List.set_cons_succ, List.getElem_toArray, List.getElem_cons_succ, List.getElem_cons_zero])
  (refine wpT_pure (v := ?_) rfl (by kernel_rfl) ?_ ?_; rotate_left; (intro wx; go_simp; try go_bits) <;> (with_reducible rfl)); (try simp only [Act.put, List.setIfInBounds_toArray, List.set_cons_zero, List.set_cons_succ, List.getElem_toArray, List.getElem_cons_succ, List.getElem_cons_zero])
  (refine wpT_pure (v := ?_) rfl (by kernel_rfl) ?_ ?_; rotate_left; (intro wx; go_simp; try go_bits) <;> (with_reducible rfl)); (try simp only [Act.put, List.setIfInBounds_toArray, List.set_cons_zero, List.set_cons_succ, List.getElem_toArray, List.getElem_cons_succ, List.getElem_cons_zero])
  refine wpT_loadRow rfl rfl (by kernel_rfl) HS.out 1 rfl rfl Try.underlying27 rfl (by kernel_rfl) ?_; (try simp only [Act.put, List.setIfInBounds_toArray, List.set_cons_zero, List.set_cons_succ, List.getElem_toArray, List.getElem_cons_succ, List.getElem_cons_zero])
  (refine wpT_pure (v := ?_) rfl (by kernel_rfl) ?_ ?_; rotate_left; (intro wx; go_simp; try go_bits) <;> (with_reducible rfl)); (try simp only [Act.put, List.setIfInBounds_toArray, List.set_cons_zero, List.set_cons_succ, List.getElem_toArray, List.getElem_cons_succ, List.getElem_cons_zero])
  (refine wpT_pure (v := ?_) rfl (by kernel_rfl) ?_ ?_; rotate_left; (intro wx; go_simp; try go_bits) <;> (with_reducible rfl)); (try simp only [Act.put, List.setIfInBounds_toArray, List.set_cons_zero, List.set_cons_succ, List.getElem_toArray, List.getElem_cons_succ, List.getElem_cons_zero])
  (refine wpT_pure (v := ?_) rfl (by kernel_rfl) ?_ ?_; rotate_left; (intro wx; go_simp; try go_bits) <;> (with_reducible rfl)); (try simp only [Act.put, List.setIfInBounds_toArray, List.set_cons_zero, List.set_cons_succ, List.getElem_toArray, List.getElem_cons_succ, List.getElem_cons_zero])
  refine wpT_callF rfl (by kernel_rfl) rfl enEIsOdd rfl (oddB hv1 hd1 G1.out) ?_
  rintro r x3 ⟨rfl, hb⟩
  refine ⟨_, rfl, hb, ?_⟩
  have HS := hide (HS.out.call hb); clear hb
  (try simp only [Act.put, List.setIfInBounds_toArray, List.set_cons_zero, List.set_cons_succ, List.getElem_toArray, List.getElem_cons_succ, List.getElem_cons_zero])
  (refine wpT_pure (v := ?_) rfl (by kernel_rfl) ?_ ?_; rotate_left; (intro wx; go_simp; try go_bits) <;> (with_reducible rfl)); (try simp only [Act.put, List.setIfInBounds_toArray, List.set_cons_zero, List.set_cons_succ, List.getElem_toArray, List.getElem_cons_succ, List.getElem_cons_zero])
  (refine wpT_pure (v := ?_) rfl (by kernel_rfl) ?_ ?_; rotate_left; (intro wx; go_simp; try go_bits) <;> (with_reducible rfl)); (try simp only [Act.put, List.setIfInBounds_toArray, List.set_cons_zero, List.set_cons_succ, List.getElem_toArray, List.getElem_cons_succ, List.getElem_cons_zero])
  (refine wpT_pure (v := ?_) rfl (by kernel_rfl) ?_ ?_; rotate_left; (intro wx; go_simp; try go_bits) <;> (with_reducible rfl)); (try simp only [Act.put, List.setIfInBounds_toArray, List.set_cons_zero, List.set_cons_succ, List.getElem_toArray, List.getElem_cons_succ, List.getElem_cons_zero])
  refine wpT_loadRow rfl rfl (by kernel_rfl) HS.out 1 rfl rfl Try.underlying27 rfl (by kernel_rfl) ?_; (try simp only [Act.put, List.setIfInBounds_toArray, List.set_cons_zero, List.set_cons_succ, List.getElem_toArray, List.getElem_cons_succ, List.getElem_cons_zero])
  (refine wpT_pure (v := ?_) rfl (by kernel_rfl) ?_ ?_; rotate_left; (intro wx; go_simp; try go_bits) <;> (with_reducible rfl)); (try simp only [Act.put, List.setIfInBounds_toArray, List.set_cons_zero, List.set_cons_succ, List.getElem_toArray, List.getElem_cons_succ, List.getElem_cons_zero])
  (refine wpT_pure (v := ?_) rfl (by kernel_rfl) ?_ ?_; rotate_left; (intro wx; go_simp; try go_bits) <;> (with_reducible rfl)); (try simp only [Act.put, List.setIfInBounds_toArray, List.set_cons_zero, List.set_cons_succ, List.getElem_toArray, List.getElem_cons_succ, List.getElem_cons_zero])
  refine wpT_callF rfl (by kernel_rfl) rfl enIsZero rfl (zeroB hv1 hd1 G2.out) ?_
  rintro r x4 ⟨rfl, hb⟩
  refine ⟨_, rfl, hb, ?_⟩
  have HS := hide (HS.out.call hb); clear hb
  (try simp only [Act.put, List.setIfInBounds_toArray, List.set_cons_zero, List.set_cons_succ, List.getElem_toArray, List.getElem_cons_succ, List.getElem_cons_zero])
  (refine wpT_pure (v := ?_) rfl (by kernel_rfl) ?_ ?_; rotate_left; (intro wx; go_simp; try go_bits) <;> (with_reducible rfl)); (try simp only [Act.put, List.setIfInBounds_toArray, List.set_cons_zero, List.set_cons_succ, List.getElem_toArray, List.getElem_cons_succ, List.getElem_cons_zero])
  (refine wpT_pure (v := ?_) rfl (by kernel_rfl) ?_ ?_; rotate_left; (intro wx; go_simp; try go_bits) <;> (with_reducible rfl)); (try simp only [Act.put, List.setIfInBounds_toArray, List.set_cons_zero, List.set_cons_succ, List.getElem_toArray, List.getElem_cons_succ, List.getElem_cons_zero])
  (refine wpT_pure (v := ?_) rfl (by kernel_rfl) ?_ ?_; rotate_left; (intro wx; go_simp; try go_bits) <;> (with_reducible rfl)); (try simp only [Act.put, List.setIfInBounds_toArray, List.set_cons_zero, List.set_cons_succ, List.getElem_toArray, List.getElem_cons_succ, List.getElem_cons_zero])
  refine wpT_loadRow rfl rfl (by kernel_rfl) HS.out 1 rfl rfl Try.underlying27 rfl (by kernel_rfl) ?_; (try simp only [Act.put, List.setIfInBounds_toArray, List.set_cons_zero, List.set_cons_succ, List.getElem_toArray, List.getElem_cons_succ, List.getElem_cons_zero])
  refine wpT_loadRow rfl rfl (by kernel_rfl) HS.out 0 rfl rfl Try.underlying27 rfl (by kernel_rfl) ?_; (try simp only [Act.put, List.setIfInBounds_toArray, List.set_cons_zero, List.set_cons_succ, List.getElem_toArray, List.getElem_cons_succ, List.getElem_cons_zero])
  (refine wpT_pure (v := ?_) rfl (by kernel_rfl) ?_ ?_; rotate_left; (intro wx; go_simp; try go_bits) <;> (with_reducible rfl)); (try simp only [Act.put, List.setIfInBounds_toArray, List.set_cons_zero, List.set_cons_succ, List.getElem_toArray, List.getElem_cons_succ, List.getElem_cons_zero])
  (refine wpT_pure (v := ?_) rfl (by kernel_rfl) ?_ ?_; rotate_left; (intro wx; go_simp; try go_bits) <;> (with_reducible rfl)); (try simp only [Act.put, List.setIfInBounds_toArray, List.set_cons_zero, List.set_cons_succ, List.getElem_toArray, List.getElem_cons_succ, List.getElem_cons_zero])
  (refine wpT_pure (v := ?_) rfl (by kernel_rfl) ?_ ?_; rotate_left; (intro wx; go_simp; try go_bits) <;> (with_reducible rfl)); (try simp only [Act.put, List.setIfInBounds_toArray, List.set_cons_zero, List.set_cons_succ, List.getElem_toArray, List.getElem_cons_succ, List.getElem_cons_zero])
  refine wpT_callF rfl (by kernel_rfl) rfl enSame rfl (sameB hv1 hd1 hv2 hd2 G3.out) ?_
  rintro r x5 ⟨rfl, hb⟩
  refine ⟨_, rfl, hb, ?_⟩
  have HS := hide (HS.out.call hb); clear hb
  (try simp only [Act.put, List.setIfInBounds_toArray, List.set_cons_zero, List.set_cons_succ, List.getElem_toArray, List.getElem_cons_succ, List.getElem_cons_zero])
  (refine wpT_pure (v := ?_) rfl (by kernel_rfl) ?_ ?_; rotate_left; (intro wx; go_simp; try go_bits) <;> (with_reducible rfl)); (try simp only [Act.put, List.setIfInBounds_toArray, List.set_cons_zero, List.set_cons_succ, List.getElem_toArray, List.getElem_cons_succ, List.getElem_cons_zero])
  (refine wpT_pure (v := ?_) rfl (by kernel_rfl) ?_ ?_; rotate_left; (intro wx; go_simp; try go_bits) <;> (with_reducible rfl)); (try simp only [Act.put, List.setIfInBounds_toArray, List.set_cons_zero, List.set_cons_succ, List.getElem_toArray, List.getElem_cons_succ, List.getElem_cons_zero])
  (refine wpT_pure (v := ?_) rfl (by kernel_rfl) ?_ ?_; rotate_left; (intro wx; go_simp; try go_bits) <;> (with_reducible rfl)); (try simp only [Act.put, List.setIfInBounds_toArray, List.set_cons_zero, List.set_cons_succ, List.getElem_toArray, List.getElem_cons_succ, List.getElem_cons_zero])
  refine wpT_callF rfl (by kernel_rfl) rfl enAwake rfl (awake_any _) ?_
  rintro r x6 ⟨rfl, hb⟩
  refine ⟨_, rfl, hb, ?_⟩
  have HS := hide (HS.out.call hb); clear hb
  (try simp only [Act.put, List.setIfInBounds_toArray, List.set_cons_zero, List.set_cons_succ, List.getElem_toArray, List.getElem_cons_succ, List.getElem_cons_zero])
  (refine wpT_pure (v := ?_) rfl (by kernel_rfl) ?_ ?_; rotate_left; (intro wx; go_simp; try go_bits) <;> (with_reducible rfl)); (try simp only [Act.put, List.setIfInBounds_toArray, List.set_cons_zero, List.set_cons_succ, List.getElem_toArray, List.getElem_cons_succ, List.getElem_cons_zero])
  (refine wpT_pure (v := ?_) rfl (by kernel_rfl) ?_ ?_; rotate_left; (intro wx; go_simp; try go_bits) <;> (with_reducible rfl)); (try simp only [Act.put, List.setIfInBounds_toArray, List.set_cons_zero, List.set_cons_succ, List.getElem_toArray, List.getElem_cons_succ, List.getElem_cons_zero])
  refine wpT_nil ?_
  go_wp2_with fail
  go_ret
  exact ⟨rfl, HS.out.below⟩
end Go.Proofs.Ytdihedhhkcakoaa
