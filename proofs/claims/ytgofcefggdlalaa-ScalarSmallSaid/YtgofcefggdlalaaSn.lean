/-
  The walk of ScalarSmall.
-/
import Derived.Test.YtgofcefggdlalaaSk
namespace Go.Proofs.Ytgofcefggdlalaa
open Go.RowKit

theorem stop_ {p : Prop} (h : Hid p) : p := h.out
theorem leB_map : ∀ (m n : Nat), leB m n = (List.range m).map fun i => UInt8.ofNat (n / 256 ^ i % 256)
  | 0, _ => rfl
  | m + 1, n => by
    rw [leB, leB_map m, List.range_succ_eq_map, List.map_cons, List.map_map]
    simp only [Nat.pow_zero, Nat.div_one]
    refine congrArg _ (List.map_congr_left fun i _ => ?_)
    simp only [Function.comp_apply, Nat.pow_succ]
    rw [Nat.div_div_eq_div_mul, Nat.mul_comm]
/-- What the loop has written behind k rounds. -/
@[irreducible] def wantL (n k : Nat) : List UInt8 := (List.range 32).map fun i => if i < k then UInt8.ofNat (n / 256 ^ i % 256) else 0
theorem wantL_len (n k : Nat) : (wantL n k).length = 32 := by unfold wantL; simp
theorem wantL_zero (n : Nat) : wantL n 0 = List.replicate 32 0 := by unfold wantL; simp; rfl
theorem wantL_set (n k : Nat) (h : k < 32) : (wantL n k).set k (UInt8.ofNat (n / 256 ^ k % 256)) = wantL n (k + 1) := by
  refine List.ext_getElem? fun i => ?_
  by_cases hi : i = k
  · subst hi
    rw [List.getElem?_set_self (by rw [wantL_len]; exact h)]
    unfold wantL
    rw [List.getElem?_map, List.getElem?_range h]
    simp
  · rw [List.getElem?_set_ne (by omega)]
    unfold wantL
    rw [List.getElem?_map, List.getElem?_map]
    by_cases h32 : i < 32
    · rw [List.getElem?_range h32]
      simp only [Option.map_some, Option.some.injEq]
      by_cases hk : i < k
      · rw [if_pos hk, if_pos (by omega)]
      · rw [if_neg hk, if_neg (by omega)]
    · rw [List.getElem?_eq_none (by rw [List.length_range]; omega)]
      rfl
theorem wantL_all (n : Nat) (h : n < 256 ^ 8) : wantL n 8 = leB 32 n := by
  rw [leB_map]
  unfold wantL
  refine List.map_congr_left fun i _ => ?_
  by_cases hi : i < 8
  · rw [if_pos hi]
  · rw [if_neg hi]
    have : n / 256 ^ i = 0 := Nat.div_eq_of_lt (Nat.lt_of_lt_of_le h (Nat.pow_le_pow_right (by decide) (by omega)))
    rw [this]
    rfl
@[irreducible] def dbl (a : Nat) : List UInt8 := fullL [UInt8.ofNat (a % 256), UInt8.ofNat (a / 256)]
theorem dbl_len (a : Nat) : (dbl a).length = 32 := by unfold dbl; exact fullL_len _
theorem dbl_val (a : Nat) (h : a < 65536) : bval (dbl a) = a := by
  unfold dbl
  rw [bval_full _ (by simp)]
  simp only [bval, UInt8.toNat_ofNat']
  omega
@[irreducible] def three (a : Nat) : List UInt8 := fullL [UInt8.ofNat (a % 256), UInt8.ofNat (a / 256 % 256), UInt8.ofNat (a / 65536)]
theorem three_len (a : Nat) : (three a).length = 32 := by unfold three; exact fullL_len _
theorem three_val (a : Nat) (h : a < 131072) : bval (three a) = a := by
  unfold three
  rw [bval_full _ (by simp)]
  simp only [bval, UInt8.toNat_ofNat']
  omega
theorem small_mad (a b c : Nat) (ha : a < 65536) (hb : b < 65536) (hc : c < 65536) : a * b + c < 4294967296 ∧ madL (dbl a) (dbl b) (dbl c) = wantL (a * b + c) 8 := by
  have h1 : a * b ≤ 65535 * 65535 := Nat.mul_le_mul (by omega) (by omega)
  have h2 : a * b + c < 4294967296 := by omega
  have h3 : Lq > 4294967296 := by unfold Lq; decide
  refine ⟨h2, ?_⟩
  rw [wantL_all _ (by omega)]
  unfold madL
  rw [dbl_val a ha, dbl_val b hb, dbl_val c hc, Nat.mod_eq_of_lt (by omega)]
theorem small_sum (a b : Nat) (ha : a < 65536) (hb : b < 65536) : sumL (dbl a) (dbl b) = three (a + b) := by
  have h3 : Lq > 4294967296 := by unfold Lq; decide
  refine bval_inj (by rw [sumL_len, three_len]) ?_
  rw [bval_sumL, dbl_val a ha, dbl_val b hb, three_val _ (by omega), Nat.mod_eq_of_lt (by omega)]
theorem below_call {w w' : World} {o : Obj} (hb : Below (w.alloc o).heap.size (w.alloc o) w') : Below w.heap.size w w' := (((St.init w NoB).skip o).call hb).below
theorem bvs_of (xs : List Nat) (h : ∀ x ∈ xs, x < 256) : bvs (xs.map UInt8.ofNat) = xs.map (fun x : Nat => Value.int .u8 (x : Int)) := by
  simp only [bvs, List.map_map]
  refine List.map_congr_left fun x hx => ?_
  simp only [Function.comp_apply, bv, UInt8.toNat_ofNat']
  rw [Nat.mod_eq_of_lt (h x hx)]
theorem fullDbl {W : World} {g : Nat} (a : Nat) (ha : a < 65536) (h : Rd W (.slice (some ⟨g, 0, none⟩) 2 2) 1 2 [.int .u8 ((a : Int) % 256), .int .u8 ((a : Int) / 256)]) :
    Calls Try.prog 10 #[.slice (some ⟨g, 0, none⟩) 2 2] W (Row32 W (dbl a)) := by
  rw [show (a : Int) % 256 = ((a % 256 : Nat) : Int) from by omega, show (a : Int) / 256 = ((a / 256 : Nat) : Int) from by omega] at h
  have e := bvs_of [a % 256, a / 256] (by intro x hx; simp at hx; omega)
  simp only [List.map_cons, List.map_nil] at e
  rw [← e] at h
  unfold dbl
  exact fullC rfl (by decide) h
theorem fullThree {W : World} {g : Nat} (a : Nat) (ha : a < 131072) (h : Rd W (.slice (some ⟨g, 0, none⟩) 3 3) 1 3 [.int .u8 ((a : Int) % 256), .int .u8 ((a : Int) / 256 % 256), .int .u8 ((a : Int) / 65536)]) :
    Calls Try.prog 10 #[.slice (some ⟨g, 0, none⟩) 3 3] W (Row32 W (three a)) := by
  rw [show (a : Int) % 256 = ((a % 256 : Nat) : Int) from by omega, show (a : Int) / 256 % 256 = ((a / 256 % 256 : Nat) : Int) from by omega, show (a : Int) / 65536 = ((a / 65536 : Nat) : Int) from by omega] at h
  have e := bvs_of [a % 256, a / 256 % 256, a / 65536] (by intro x hx; simp at hx; omega)
  simp only [List.map_cons, List.map_nil] at e
  rw [← e] at h
  unfold three
  exact fullC rfl (by decide) h
theorem and_ffff (n : Nat) (h : n < 4294967296) : bits .and .u32 (n : Int) 65535 = ((n % 65536 : Nat) : Int) := by
  rw [show bits .and .u32 (n : Int) 65535 = ((n &&& 65535 : Nat) : Int) from u32_and_nat n 65535 h (by omega), show n &&& 65535 = n % 65536 from Nat.and_two_pow_sub_one_eq_mod n 16]
set_option maxRecDepth 100000 in
set_option maxHeartbeats 1600000 in
theorem small_walk (n0 n1 n2 : Nat) (w : World) (h0 : n0 < 4294967296) (h1 : n1 < 4294967296) (h2 : n2 < 4294967296) :
    Calls Try.prog 6 #[.int .u32 (n0 : Int), .int .u32 (n1 : Int), .int .u32 (n2 : Int)] w fun e w' => e = .returned (.bool true) ∧ Below w.heap.size w w' := by
  have m0 := and_ffff n0 h0
  have m1 := and_ffff n1 h1
  have m2 := and_ffff n2 h2
  have ha : n0 % 65536 < 65536 := by omega
  have hb : n1 % 65536 < 65536 := by omega
  have hc : n2 % 65536 < 65536 := by omega
  generalize n0 % 65536 = a at m0 ha
  generalize n1 % 65536 = b at m1 hb
  generalize n2 % 65536 = c at m2 hc
  have HA := hide ha
  have HB := hide hb
  have HC := hide hc
  clear h0 h1 h2
  have hmul : a * b ≤ 65535 * 65535 := Nat.mul_le_mul (by omega) (by omega)
  obtain ⟨N, hN⟩ : ∃ N, N = a * b + c := ⟨_, rfl⟩
  have P1 : IntKind.u64.wrap ((a : Int) * (b : Int)) = (a : Int) * (b : Int) := by
    rw [show (a : Int) * (b : Int) = ((a * b : Nat) : Int) from by simp, IntKind.wrap_u64]
    omega
  have P3 : IntKind.u64.wrap ((a : Int) * (b : Int) + (c : Int)) = (N : Int) := by
    rw [show (a : Int) * (b : Int) = ((a * b : Nat) : Int) from by simp, IntKind.wrap_u64, hN]
    omega
  have HM := hide (small_mad a b c ha hb hc)
  rw [← hN] at HM
  have HSU := hide (small_sum a b ha hb)
  have hN64 : N < 4294967296 := HM.out.1
  clear hmul hN
  go_enter Try.func6, Try.ntmps6
  go_upto_region 5 with (first
    | (refine wl_makeB (n := 32) rfl rfl Try.underlying22 infoB (St.init w3 NoB) rfl rfl (by decide) ?_; intro g w4 hS4 hb4)
    | (have _q := hb2; go_at_call 10; refine (fullDbl c HC.out (rd_new w2 [.int .u8 ((c : Int) % 256), .int .u8 ((c : Int) / 256)] _ 1 2 rfl (by decide))).mono ?_; rintro e w3 ⟨A3, c3, rfl, hb3, hr3⟩; replace hb3 := below_call hb3)
    | (have _q := hb1; go_at_call 10; refine (fullDbl b HB.out (rd_new w1 [.int .u8 ((b : Int) % 256), .int .u8 ((b : Int) / 256)] _ 1 2 rfl (by decide))).mono ?_; rintro e w2 ⟨A2, c2, rfl, hb2, hr2⟩; replace hb2 := below_call hb2)
    | (go_at_call 10; refine (fullDbl a HA.out (rd_new w [.int .u8 ((a : Int) % 256), .int .u8 ((a : Int) / 256)] _ 1 2 rfl (by decide))).mono ?_; rintro e w1 ⟨A1, c1, rfl, hb1, hr1⟩; replace hb1 := below_call hb1))
  have B3 := hide ((hb1.trans (hb2.mono hb1.size)).trans (hb3.mono (Nat.le_trans hb1.size hb2.size)))
  have QX := hide ((hr1.below hb2).below hb3)
  have QY := hide (hr2.below hb3)
  have QZ := hide hr3
  have HS4 := hide hS4
  clear hr1 hr2 hr3 hb1 hb2 hb3 hS4 _q m0 m1 m2
  go_wp2_with fail
  go_loopw [49] (fun i wr => ∃ k : Nat, k ≤ 8 ∧ i = .int .i64 (k : Int) ∧ St w3 NoB wr [.row (.slice (some ⟨g, 0, none⟩) 32 32) 5 1 32 (bvs (wantL N k))]) (fun i _ => 8 - (intOf i).toNat)
  case atStart => exact ⟨0, by omega, rfl, by rw [wantL_zero]; exact HS4.out⟩
  case round =>
    obtain ⟨k, hk, rfl, hS⟩ := hrel
    obtain ⟨g', c', hv, _, _, hcs, hfr, _⟩ := hS.rowOpen 0 rfl (by decide)
    injection hv with hv1 _ hv3
    injection hv1 with hv1
    injection hv1 with hv1
    subst hv1 hv3
    have HSK := hide hS
    by_cases h8 : k < 8
    · obtain ⟨x, hx⟩ : ∃ x, (wantL N k)[k]? = some x := ⟨_, List.getElem?_eq_getElem (by rw [wantL_len]; omega)⟩
      have kc := hcs k _ (bvs_get hx)
      have kf := hfr k
      clear hcs hfr hx hS
      go_wp2_with fail
      go_roundw
      case rel =>
        have e : (N : Int) / 2 ^ (8 * k) % 256 = ((N / 256 ^ k % 256 : Nat) : Int) := by
          rw [show (2 : Int) ^ (8 * k) = ((256 ^ k : Nat) : Int) from by rw [show (256 : Nat) = 2 ^ 8 from rfl, ← Nat.pow_mul]; simp]
          first | rfl | simp
        refine ⟨k + 1, by omega, by go_num, ?_⟩
        have h3 := HSK.out.rowSet 0 rfl k (.int .u8 (N / 256 ^ k % 256 : Nat)) (by omega)
        rw [bvs_set _ _ _ (by omega), wantL_set _ _ (by omega)] at h3
        rw [e]
        exact h3
      case measure => simp [intOf]; omega
    · obtain rfl : k = 8 := by omega
      have KW := hide (HSK.out.rd 0 rfl)
      have BB := hide (B3.out.trans (HSK.out.below.mono B3.out.size))
      replace QX := hide (QX.out.st HSK.out)
      replace QY := hide (QY.out.st HSK.out)
      replace QZ := hide (QZ.out.st HSK.out)
      clear hcs hfr hS HSK HS4 hk h8 P1 P3
      obtain ⟨t, ht⟩ : ∃ t, t = a + b := ⟨_, rfl⟩
      have ht2 : t < 131072 := by omega
      have HT2 := hide ht2
      have S1 : IntKind.u32.wrap ((a : Int) + (b : Int)) = (t : Int) := by rw [IntKind.wrap_u32, ht]; omega
      have S2 : IntKind.u8.wrap (t : Int) = (t : Int) % 256 := by rw [IntKind.wrap_u8]
      have S3 : IntKind.u8.wrap ((t : Int) / 256) = (t : Int) / 256 % 256 := by rw [IntKind.wrap_u8]
      have S4 : IntKind.u8.wrap ((t : Int) / 65536) = (t : Int) / 65536 := by rw [IntKind.wrap_u8]; omega
      rw [← ht] at HSU
      clear ht
      go_upto_region 10 with fail
      have B_1 := hide (show Below w.heap.size w (wr.drew) from ((St.init w NoB).call BB.out).drew.below)
      clear BB
      have rx_2 := hide (show Rd wr.drew (.slice A1 32 c1) 1 32 (bvs (dbl a)) from QX.out)
      clear QX
      have ry_2 := hide (show Rd wr.drew (.slice A2 32 c2) 1 32 (bvs (dbl b)) from QY.out)
      clear QY
      have rz_2 := hide (show Rd wr.drew (.slice A3 32 c3) 1 32 (bvs (dbl c)) from QZ.out)
      clear QZ
      have rn_2 := hide (show Rd wr.drew (.slice (some ⟨g, 0, none⟩) 32 32) 1 32 (bvs (wantL N 8)) from KW.out)
      clear KW
      have vn_2 : ∀ x, From (wr.drew) x → (convert 22 9 (.slice (some ⟨g, 0, none⟩) 32 32)).run Try.prog x = .ok (.string (strOf (wantL N 8))) x := fun x hx => run_str Try.underlying22 Try.underlying5 Try.underlying9 (rn_2.out.below hx)
      refine wp_region_F (by kernel_rfl) ?_
      (refine wpG_take (i := 0) (v := ?_) rfl (by kernel_rfl) (by kernel_rfl) (by kernel_rfl) (fun _ _ _ h => h) (From.refl _) (Or.inl ⟨by rfl, ?_⟩) ?_; rotate_left; (intro wx hx; go_simp) <;> (with_reducible rfl); (try simp only [Act.put, List.setIfInBounds_toArray, List.set_cons_zero, List.set_cons_succ, List.getElem_toArray, List.getElem_cons_succ, List.getElem_cons_zero])); (refine wpG_take (i := 1) (v := ?_) rfl (by kernel_rfl) (by kernel_rfl) (by kernel_rfl) (fun _ _ _ h => h) (From.refl _) (Or.inl ⟨by rfl, ?_⟩) ?_; rotate_left; (intro wx hx; go_simp) <;> (with_reducible rfl); (try simp only [Act.put, List.setIfInBounds_toArray, List.set_cons_zero, List.set_cons_succ, List.getElem_toArray, List.getElem_cons_succ, List.getElem_cons_zero])); (refine wpG_take (i := 2) (v := ?_) rfl (by kernel_rfl) (by kernel_rfl) (by kernel_rfl) (fun _ _ _ h => h) (From.refl _) (Or.inl ⟨by rfl, ?_⟩) ?_; rotate_left; (intro wx hx; go_simp) <;> (with_reducible rfl); (try simp only [Act.put, List.setIfInBounds_toArray, List.set_cons_zero, List.set_cons_succ, List.getElem_toArray, List.getElem_cons_succ, List.getElem_cons_zero])); (refine wpG_take (i := 5) (v := ?_) rfl (by kernel_rfl) (by kernel_rfl) (by kernel_rfl) (fun _ _ _ h => h) (From.refl _) (Or.inl ⟨by rfl, ?_⟩) ?_; rotate_left; (intro wx hx; go_simp) <;> (with_reducible rfl); (try simp only [Act.put, List.setIfInBounds_toArray, List.set_cons_zero, List.set_cons_succ, List.getElem_toArray, List.getElem_cons_succ, List.getElem_cons_zero])); (refine wpG_take (i := 6) (v := ?_) rfl (by kernel_rfl) (by kernel_rfl) (by kernel_rfl) (fun _ _ _ h => h) (From.refl _) (Or.inl ⟨by rfl, ?_⟩) ?_; rotate_left; (intro wx hx; go_simp) <;> (with_reducible rfl); (try simp only [Act.put, List.setIfInBounds_toArray, List.set_cons_zero, List.set_cons_succ, List.getElem_toArray, List.getElem_cons_succ, List.getElem_cons_zero]))
      (refine wpG_one (i := 3) (by kernel_rfl) rfl ?_; intro K hK; (try simp only [Act.put, List.setIfInBounds_toArray, List.set_cons_zero, List.set_cons_succ, List.getElem_toArray, List.getElem_cons_succ, List.getElem_cons_zero]))
      refine step_call rfl rfl enMulAdd rfl (madC (dbl_len a) (dbl_len b) (dbl_len c) rx_2.out ry_2.out rz_2.out) ?_
      rintro e w21 ⟨A21, c21, rfl, hb21, hr21⟩
      rw [HM.out.2] at hr21
      refine ⟨_, rfl, hK (From w21) _ _ (From.next hb21) (From.refl _) ?_⟩
      have q21 := hide hr21
      clear hr21
      clear hK K
      clear vn_2
      (try simp only [Act.put, List.setIfInBounds_toArray, List.set_cons_zero, List.set_cons_succ, List.getElem_toArray, List.getElem_cons_succ, List.getElem_cons_zero])
      have B_3 := hide (show Below w.heap.size w (w21) from B_1.out.trans (hb21.mono B_1.out.size))
      clear B_1
      have rx_4 := hide (show Rd w21 (.slice A1 32 c1) 1 32 (bvs (dbl a)) from rx_2.out.below hb21)
      clear rx_2
      have ry_4 := hide (show Rd w21 (.slice A2 32 c2) 1 32 (bvs (dbl b)) from ry_2.out.below hb21)
      clear ry_2
      have rz_4 := hide (show Rd w21 (.slice A3 32 c3) 1 32 (bvs (dbl c)) from rz_2.out.below hb21)
      clear rz_2
      have rn_4 := hide (show Rd w21 (.slice (some ⟨g, 0, none⟩) 32 32) 1 32 (bvs (wantL N 8)) from rn_2.out.below hb21)
      clear rn_2
      have vm_4 : ∀ x, From (w21) x → (convert 22 9 (.slice A21 32 c21)).run Try.prog x = .ok (.string (strOf (wantL N 8))) x := fun x hx => run_str Try.underlying22 Try.underlying5 Try.underlying9 (q21.out.below hx)
      (refine wpG_take (i := 4) (v := ?_) rfl (by kernel_rfl) (by kernel_rfl) (by kernel_rfl) (fun _ _ _ h => h) (From.refl _) (Or.inl ⟨by rfl, ?_⟩) ?_; rotate_left; (intro wx hx; go_simp) <;> (with_reducible rfl); (try simp only [Act.put, List.setIfInBounds_toArray, List.set_cons_zero, List.set_cons_succ, List.getElem_toArray, List.getElem_cons_succ, List.getElem_cons_zero])); (refine wpG_take (i := 7) (v := ?_) rfl (by kernel_rfl) (by kernel_rfl) (by kernel_rfl) (fun _ _ _ h => h) (From.refl _) (Or.inl ⟨by rfl, ?_⟩) ?_; rotate_left; (intro wx hx; go_simp) <;> (with_reducible rfl); (try simp only [Act.put, List.setIfInBounds_toArray, List.set_cons_zero, List.set_cons_succ, List.getElem_toArray, List.getElem_cons_succ, List.getElem_cons_zero])); (refine wpG_take (i := 8) (v := ?_) rfl (by kernel_rfl) (by kernel_rfl) (by kernel_rfl) (fun _ _ _ h => h) (From.refl _) (Or.inl ⟨by rfl, ?_⟩) ?_; rotate_left; (intro wx hx; go_simp) <;> (with_reducible rfl); (try simp only [Act.put, List.setIfInBounds_toArray, List.set_cons_zero, List.set_cons_succ, List.getElem_toArray, List.getElem_cons_succ, List.getElem_cons_zero])); (refine wpG_take (i := 9) (v := ?_) rfl (by kernel_rfl) (by kernel_rfl) (by kernel_rfl) (fun _ _ _ h => h) (From.refl _) (Or.inl ⟨by rfl, ?_⟩) ?_; rotate_left; (intro wx hx; go_simp) <;> (with_reducible rfl); (try simp only [Act.put, List.setIfInBounds_toArray, List.set_cons_zero, List.set_cons_succ, List.getElem_toArray, List.getElem_cons_succ, List.getElem_cons_zero])); (refine wpG_take (i := 10) (v := ?_) rfl (by kernel_rfl) (by kernel_rfl) (by kernel_rfl) (fun _ _ _ h => h) (From.refl _) (Or.inl ⟨by rfl, ?_⟩) ?_; rotate_left; (intro wx hx; go_simp) <;> (with_reducible rfl); (try simp only [Act.put, List.setIfInBounds_toArray, List.set_cons_zero, List.set_cons_succ, List.getElem_toArray, List.getElem_cons_succ, List.getElem_cons_zero])); (refine wpG_take (i := 13) (v := ?_) rfl (by kernel_rfl) (by kernel_rfl) (by kernel_rfl) (fun _ _ _ h => h) (From.refl _) (Or.inl ⟨by rfl, ?_⟩) ?_; rotate_left; (intro wx hx; go_simp) <;> (with_reducible rfl); (try simp only [Act.put, List.setIfInBounds_toArray, List.set_cons_zero, List.set_cons_succ, List.getElem_toArray, List.getElem_cons_succ, List.getElem_cons_zero])); (refine wpG_take (i := 14) (v := ?_) rfl (by kernel_rfl) (by kernel_rfl) (by kernel_rfl) (fun _ _ _ h => h) (From.refl _) (Or.inl ⟨by rfl, ?_⟩) ?_; rotate_left; (intro wx hx; go_simp) <;> (with_reducible rfl); (try simp only [Act.put, List.setIfInBounds_toArray, List.set_cons_zero, List.set_cons_succ, List.getElem_toArray, List.getElem_cons_succ, List.getElem_cons_zero])); (refine wpG_take (i := 15) (v := ?_) rfl (by kernel_rfl) (by kernel_rfl) (by kernel_rfl) (fun _ _ _ h => h) (From.refl _) (Or.inl ⟨by rfl, ?_⟩) ?_; rotate_left; (intro wx hx; go_simp) <;> (with_reducible rfl); (try simp only [Act.put, List.setIfInBounds_toArray, List.set_cons_zero, List.set_cons_succ, List.getElem_toArray, List.getElem_cons_succ, List.getElem_cons_zero])); (refine wpG_take (i := 16) (v := ?_) rfl (by kernel_rfl) (by kernel_rfl) (by kernel_rfl) (fun _ _ _ h => h) (From.refl _) (Or.inl ⟨by rfl, ?_⟩) ?_; rotate_left; (intro wx hx; go_simp) <;> (with_reducible rfl); (try simp only [Act.put, List.setIfInBounds_toArray, List.set_cons_zero, List.set_cons_succ, List.getElem_toArray, List.getElem_cons_succ, List.getElem_cons_zero])); (refine wpG_take (i := 17) (v := ?_) rfl (by kernel_rfl) (by kernel_rfl) (by kernel_rfl) (fun _ _ _ h => h) (From.refl _) (Or.inl ⟨by rfl, ?_⟩) ?_; rotate_left; (intro wx hx; go_simp) <;> (with_reducible rfl); (try simp only [Act.put, List.setIfInBounds_toArray, List.set_cons_zero, List.set_cons_succ, List.getElem_toArray, List.getElem_cons_succ, List.getElem_cons_zero])); (refine wpG_take (i := 18) (v := ?_) rfl (by kernel_rfl) (by kernel_rfl) (by kernel_rfl) (fun _ _ _ h => h) (From.refl _) (Or.inl ⟨by rfl, ?_⟩) ?_; rotate_left; (intro wx hx; go_simp) <;> (with_reducible rfl); (try simp only [Act.put, List.setIfInBounds_toArray, List.set_cons_zero, List.set_cons_succ, List.getElem_toArray, List.getElem_cons_succ, List.getElem_cons_zero])); (refine wpG_take (i := 19) (v := ?_) rfl (by kernel_rfl) (by kernel_rfl) (by kernel_rfl) (fun _ _ _ h => h) (From.refl _) (Or.inl ⟨by rfl, ?_⟩) ?_; rotate_left; (intro wx hx; go_simp) <;> (with_reducible rfl); (try simp only [Act.put, List.setIfInBounds_toArray, List.set_cons_zero, List.set_cons_succ, List.getElem_toArray, List.getElem_cons_succ, List.getElem_cons_zero])); (refine wpG_take (i := 20) (v := ?_) rfl (by kernel_rfl) (by kernel_rfl) (by kernel_rfl) (fun _ _ _ h => h) (From.refl _) (Or.inl ⟨by rfl, ?_⟩) ?_; rotate_left; (intro wx hx; go_simp) <;> (with_reducible rfl); (try simp only [Act.put, List.setIfInBounds_toArray, List.set_cons_zero, List.set_cons_succ, List.getElem_toArray, List.getElem_cons_succ, List.getElem_cons_zero])); (refine wpG_take (i := 21) (v := ?_) rfl (by kernel_rfl) (by kernel_rfl) (by kernel_rfl) (fun _ _ _ h => h) (From.refl _) (Or.inl ⟨by rfl, ?_⟩) ?_; rotate_left; (intro wx hx; go_simp) <;> (with_reducible rfl); (try simp only [Act.put, List.setIfInBounds_toArray, List.set_cons_zero, List.set_cons_succ, List.getElem_toArray, List.getElem_cons_succ, List.getElem_cons_zero])); (refine wpG_take (i := 22) (v := ?_) rfl (by kernel_rfl) (by kernel_rfl) (by kernel_rfl) (fun _ _ _ h => h) (From.refl _) (Or.inl ⟨by rfl, ?_⟩) ?_; rotate_left; (intro wx hx; go_simp) <;> (with_reducible rfl); (try simp only [Act.put, List.setIfInBounds_toArray, List.set_cons_zero, List.set_cons_succ, List.getElem_toArray, List.getElem_cons_succ, List.getElem_cons_zero])); (refine wpG_take (i := 23) (v := ?_) rfl (by kernel_rfl) (by kernel_rfl) (by kernel_rfl) (fun _ _ _ h => h) (From.refl _) (Or.inl ⟨by rfl, ?_⟩) ?_; rotate_left; (intro wx hx; go_simp) <;> (with_reducible rfl); (try simp only [Act.put, List.setIfInBounds_toArray, List.set_cons_zero, List.set_cons_succ, List.getElem_toArray, List.getElem_cons_succ, List.getElem_cons_zero])); (refine wpG_take (i := 24) (v := ?_) rfl (by kernel_rfl) (by kernel_rfl) (by kernel_rfl) (fun _ _ _ h => h) (From.refl _) (Or.inl ⟨by rfl, ?_⟩) ?_; rotate_left; (intro wx hx; go_simp) <;> (with_reducible rfl); (try simp only [Act.put, List.setIfInBounds_toArray, List.set_cons_zero, List.set_cons_succ, List.getElem_toArray, List.getElem_cons_succ, List.getElem_cons_zero])); (refine wpG_take (i := 25) (v := ?_) rfl (by kernel_rfl) (by kernel_rfl) (by kernel_rfl) (fun _ _ _ h => h) (From.refl _) (Or.inl ⟨by rfl, ?_⟩) ?_; rotate_left; (intro wx hx; go_simp) <;> (with_reducible rfl); (try simp only [Act.put, List.setIfInBounds_toArray, List.set_cons_zero, List.set_cons_succ, List.getElem_toArray, List.getElem_cons_succ, List.getElem_cons_zero])); (refine wpG_take (i := 26) (v := ?_) rfl (by kernel_rfl) (by kernel_rfl) (by kernel_rfl) (fun _ _ _ h => h) (From.refl _) (Or.inl ⟨by rfl, ?_⟩) ?_; rotate_left; (intro wx hx; go_simp) <;> (with_reducible rfl); (try simp only [Act.put, List.setIfInBounds_toArray, List.set_cons_zero, List.set_cons_succ, List.getElem_toArray, List.getElem_cons_succ, List.getElem_cons_zero]))
      refine wpG_two (i := 11) (j := 27) (by kernel_rfl) rfl rfl ?_ ?_ <;> intro K hK <;> (try simp only [Act.put, List.setIfInBounds_toArray, List.set_cons_zero, List.set_cons_succ, List.getElem_toArray, List.getElem_cons_succ, List.getElem_cons_zero])
      · refine step_call rfl rfl enAdd rfl (addC (dbl_len a) (dbl_len b) rx_4.out ry_4.out) ?_
        rintro e w22 ⟨A22, c22, rfl, hb22, hr22⟩
        rw [HSU.out] at hr22
        refine ⟨_, rfl, hK (From w22) _ _ (From.next hb22) (From.refl _) ?_⟩
        have q22 := hide hr22
        clear hr22
        clear hK K
        clear vm_4
        (try simp only [Act.put, List.setIfInBounds_toArray, List.set_cons_zero, List.set_cons_succ, List.getElem_toArray, List.getElem_cons_succ, List.getElem_cons_zero])
        have B_5 := hide (show Below w.heap.size w (w22) from B_3.out.trans (hb22.mono B_3.out.size))
        clear B_3
        have rx_6 := hide (show Rd w22 (.slice A1 32 c1) 1 32 (bvs (dbl a)) from rx_4.out.below hb22)
        clear rx_4
        have ry_6 := hide (show Rd w22 (.slice A2 32 c2) 1 32 (bvs (dbl b)) from ry_4.out.below hb22)
        clear ry_4
        have rz_6 := hide (show Rd w22 (.slice A3 32 c3) 1 32 (bvs (dbl c)) from rz_4.out.below hb22)
        clear rz_4
        have rn_6 := hide (show Rd w22 (.slice (some ⟨g, 0, none⟩) 32 32) 1 32 (bvs (wantL N 8)) from rn_4.out.below hb22)
        clear rn_4
        have rm_6 := hide (show Rd w22 (.slice A21 32 c21) 1 32 (bvs (wantL N 8)) from q21.out.below hb22)
        clear q21
        have vs_6 : ∀ x, From (w22) x → (convert 22 9 (.slice A22 32 c22)).run Try.prog x = .ok (.string (strOf (three t))) x := fun x hx => run_str Try.underlying22 Try.underlying5 Try.underlying9 (q22.out.below hx)
        (refine wpG_take (i := 12) (v := ?_) rfl (by kernel_rfl) (by kernel_rfl) (by kernel_rfl) (fun _ _ _ h => h) (From.refl _) (Or.inl ⟨by rfl, ?_⟩) ?_; rotate_left; (intro wx hx; go_simp) <;> (with_reducible rfl); (try simp only [Act.put, List.setIfInBounds_toArray, List.set_cons_zero, List.set_cons_succ, List.getElem_toArray, List.getElem_cons_succ, List.getElem_cons_zero]))
        (refine wpG_one (i := 27) (by kernel_rfl) rfl ?_; intro K hK; (try simp only [Act.put, List.setIfInBounds_toArray, List.set_cons_zero, List.set_cons_succ, List.getElem_toArray, List.getElem_cons_succ, List.getElem_cons_zero]))
        refine step_lit (us := [.int .u8 ((t : Int) % 256), .int .u8 ((t : Int) / 256 % 256), .int .u8 ((t : Int) / 65536)]) (n := 3) (e := 5) rfl (fun _ => by go_simp) rfl (by decide) ?_
        intro g23 w23 hS23
        refine hK (From w23) _ _ (From.next hS23.below) (From.refl _) ?_
        have qt := hide (hS23.rd 0 rfl)
        clear hK K
        clear vs_6
        (try simp only [Act.put, List.setIfInBounds_toArray, List.set_cons_zero, List.set_cons_succ, List.getElem_toArray, List.getElem_cons_succ, List.getElem_cons_zero])
        have B_7 := hide (show Below w.heap.size w (w23) from B_5.out.trans (hS23.below.mono B_5.out.size))
        clear B_5
        have rx_8 := hide (show Rd w23 (.slice A1 32 c1) 1 32 (bvs (dbl a)) from rx_6.out.below hS23.below)
        clear rx_6
        have ry_8 := hide (show Rd w23 (.slice A2 32 c2) 1 32 (bvs (dbl b)) from ry_6.out.below hS23.below)
        clear ry_6
        have rz_8 := hide (show Rd w23 (.slice A3 32 c3) 1 32 (bvs (dbl c)) from rz_6.out.below hS23.below)
        clear rz_6
        have rn_8 := hide (show Rd w23 (.slice (some ⟨g, 0, none⟩) 32 32) 1 32 (bvs (wantL N 8)) from rn_6.out.below hS23.below)
        clear rn_6
        have rm_8 := hide (show Rd w23 (.slice A21 32 c21) 1 32 (bvs (wantL N 8)) from rm_6.out.below hS23.below)
        clear rm_6
        have rs_8 := hide (show Rd w23 (.slice A22 32 c22) 1 32 (bvs (three t)) from q22.out.below hS23.below)
        clear q22
        have vs_8 : ∀ x, From (w23) x → (convert 22 9 (.slice A22 32 c22)).run Try.prog x = .ok (.string (strOf (three t))) x := fun x hx => run_str Try.underlying22 Try.underlying5 Try.underlying9 (rs_8.out.below hx)
        (refine wpG_one (i := 28) (by kernel_rfl) rfl ?_; intro K hK; (try simp only [Act.put, List.setIfInBounds_toArray, List.set_cons_zero, List.set_cons_succ, List.getElem_toArray, List.getElem_cons_succ, List.getElem_cons_zero]))
        refine step_call rfl rfl enFull rfl (fullThree t HT2.out qt.out) ?_
        rintro e w24 ⟨A24, c24, rfl, hb24, hr24⟩
        refine ⟨_, rfl, hK (From w24) _ _ (From.next hb24) (From.refl _) ?_⟩
        have q24 := hide hr24
        clear hr24
        clear hK K
        clear vs_8
        (try simp only [Act.put, List.setIfInBounds_toArray, List.set_cons_zero, List.set_cons_succ, List.getElem_toArray, List.getElem_cons_succ, List.getElem_cons_zero])
        have B_9 := hide (show Below w.heap.size w (w24) from B_7.out.trans (hb24.mono B_7.out.size))
        clear B_7
        have rx_10 := hide (show Rd w24 (.slice A1 32 c1) 1 32 (bvs (dbl a)) from rx_8.out.below hb24)
        clear rx_8
        have ry_10 := hide (show Rd w24 (.slice A2 32 c2) 1 32 (bvs (dbl b)) from ry_8.out.below hb24)
        clear ry_8
        have rz_10 := hide (show Rd w24 (.slice A3 32 c3) 1 32 (bvs (dbl c)) from rz_8.out.below hb24)
        clear rz_8
        have rn_10 := hide (show Rd w24 (.slice (some ⟨g, 0, none⟩) 32 32) 1 32 (bvs (wantL N 8)) from rn_8.out.below hb24)
        clear rn_8
        have rm_10 := hide (show Rd w24 (.slice A21 32 c21) 1 32 (bvs (wantL N 8)) from rm_8.out.below hb24)
        clear rm_8
        have rs_10 := hide (show Rd w24 (.slice A22 32 c22) 1 32 (bvs (three t)) from rs_8.out.below hb24)
        clear rs_8
        have vs_10 : ∀ x, From (w24) x → (convert 22 9 (.slice A22 32 c22)).run Try.prog x = .ok (.string (strOf (three t))) x := fun x hx => run_str Try.underlying22 Try.underlying5 Try.underlying9 (rs_10.out.below hx)
        have vf_10 : ∀ x, From (w24) x → (convert 22 9 (.slice A24 32 c24)).run Try.prog x = .ok (.string (strOf (three t))) x := fun x hx => run_str Try.underlying22 Try.underlying5 Try.underlying9 (q24.out.below hx)
        (refine wpG_take (i := 29) (v := ?_) rfl (by kernel_rfl) (by kernel_rfl) (by kernel_rfl) (fun _ _ _ h => h) (From.refl _) (Or.inl ⟨by rfl, ?_⟩) ?_; rotate_left; (intro wx hx; go_simp) <;> (with_reducible rfl); (try simp only [Act.put, List.setIfInBounds_toArray, List.set_cons_zero, List.set_cons_succ, List.getElem_toArray, List.getElem_cons_succ, List.getElem_cons_zero])); (refine wpG_take (i := 30) (v := ?_) rfl (by kernel_rfl) (by kernel_rfl) (by kernel_rfl) (fun _ _ _ h => h) (From.refl _) (Or.inl ⟨by rfl, ?_⟩) ?_; rotate_left; (intro wx hx; go_simp) <;> (with_reducible rfl); (try simp only [Act.put, List.setIfInBounds_toArray, List.set_cons_zero, List.set_cons_succ, List.getElem_toArray, List.getElem_cons_succ, List.getElem_cons_zero])); (refine wpG_take (i := 31) (v := ?_) rfl (by kernel_rfl) (by kernel_rfl) (by kernel_rfl) (fun _ _ _ h => h) (From.refl _) (Or.inl ⟨by rfl, ?_⟩) ?_; rotate_left; (intro wx hx; go_simp) <;> (with_reducible rfl); (try simp only [Act.put, List.setIfInBounds_toArray, List.set_cons_zero, List.set_cons_succ, List.getElem_toArray, List.getElem_cons_succ, List.getElem_cons_zero])); (refine wpG_take (i := 32) (v := ?_) rfl (by kernel_rfl) (by kernel_rfl) (by kernel_rfl) (fun _ _ _ h => h) (From.refl _) (Or.inl ⟨by rfl, ?_⟩) ?_; rotate_left; (intro wx hx; go_simp) <;> (with_reducible rfl); (try simp only [Act.put, List.setIfInBounds_toArray, List.set_cons_zero, List.set_cons_succ, List.getElem_toArray, List.getElem_cons_succ, List.getElem_cons_zero]))
        (refine wpG_one (i := 33) (by kernel_rfl) rfl ?_; intro K hK; (try simp only [Act.put, List.setIfInBounds_toArray, List.set_cons_zero, List.set_cons_succ, List.getElem_toArray, List.getElem_cons_succ, List.getElem_cons_zero]))
        refine step_call rfl rfl enAwake rfl (awake_any _) ?_
        rintro e w25 ⟨rfl, hb25⟩
        refine ⟨_, rfl, hK (From w25) _ _ (From.next hb25) (From.refl _) ?_⟩
        clear hK K
        clear vs_10 vf_10
        (try simp only [Act.put, List.setIfInBounds_toArray, List.set_cons_zero, List.set_cons_succ, List.getElem_toArray, List.getElem_cons_succ, List.getElem_cons_zero])
        have B_11 := hide (show Below w.heap.size w (w25) from B_9.out.trans (hb25.mono B_9.out.size))
        clear B_9
        have rx_12 := hide (show Rd w25 (.slice A1 32 c1) 1 32 (bvs (dbl a)) from rx_10.out.below hb25)
        clear rx_10
        have ry_12 := hide (show Rd w25 (.slice A2 32 c2) 1 32 (bvs (dbl b)) from ry_10.out.below hb25)
        clear ry_10
        have rz_12 := hide (show Rd w25 (.slice A3 32 c3) 1 32 (bvs (dbl c)) from rz_10.out.below hb25)
        clear rz_10
        have rn_12 := hide (show Rd w25 (.slice (some ⟨g, 0, none⟩) 32 32) 1 32 (bvs (wantL N 8)) from rn_10.out.below hb25)
        clear rn_10
        have rm_12 := hide (show Rd w25 (.slice A21 32 c21) 1 32 (bvs (wantL N 8)) from rm_10.out.below hb25)
        clear rm_10
        have rs_12 := hide (show Rd w25 (.slice A22 32 c22) 1 32 (bvs (three t)) from rs_10.out.below hb25)
        clear rs_10
        have rf_12 := hide (show Rd w25 (.slice A24 32 c24) 1 32 (bvs (three t)) from q24.out.below hb25)
        clear q24
        (refine wpG_take (i := 34) (v := ?_) rfl (by kernel_rfl) (by kernel_rfl) (by kernel_rfl) (fun _ _ _ h => h) (From.refl _) (Or.inl ⟨by rfl, ?_⟩) ?_; rotate_left; (intro wx hx; go_simp) <;> (with_reducible rfl); (try simp only [Act.put, List.setIfInBounds_toArray, List.set_cons_zero, List.set_cons_succ, List.getElem_toArray, List.getElem_cons_succ, List.getElem_cons_zero])); (refine wpG_take (i := 35) (v := ?_) rfl (by kernel_rfl) (by kernel_rfl) (by kernel_rfl) (fun _ _ _ h => h) (From.refl _) (Or.inl ⟨by rfl, ?_⟩) ?_; rotate_left; (intro wx hx; go_simp) <;> (with_reducible rfl); (try simp only [Act.put, List.setIfInBounds_toArray, List.set_cons_zero, List.set_cons_succ, List.getElem_toArray, List.getElem_cons_succ, List.getElem_cons_zero]))
        refine wpG_done (by kernel_rfl) ?_ _
        go_wp2_with fail
        go_ret
        exact ⟨rfl, B_11.out⟩
      · refine step_lit (us := [.int .u8 ((t : Int) % 256), .int .u8 ((t : Int) / 256 % 256), .int .u8 ((t : Int) / 65536)]) (n := 3) (e := 5) rfl (fun _ => by go_simp) rfl (by decide) ?_
        intro g22 w22 hS22
        refine hK (From w22) _ _ (From.next hS22.below) (From.refl _) ?_
        have qt := hide (hS22.rd 0 rfl)
        clear hK K
        clear vm_4
        (try simp only [Act.put, List.setIfInBounds_toArray, List.set_cons_zero, List.set_cons_succ, List.getElem_toArray, List.getElem_cons_succ, List.getElem_cons_zero])
        have B_5 := hide (show Below w.heap.size w (w22) from B_3.out.trans (hS22.below.mono B_3.out.size))
        clear B_3
        have rx_6 := hide (show Rd w22 (.slice A1 32 c1) 1 32 (bvs (dbl a)) from rx_4.out.below hS22.below)
        clear rx_4
        have ry_6 := hide (show Rd w22 (.slice A2 32 c2) 1 32 (bvs (dbl b)) from ry_4.out.below hS22.below)
        clear ry_4
        have rz_6 := hide (show Rd w22 (.slice A3 32 c3) 1 32 (bvs (dbl c)) from rz_4.out.below hS22.below)
        clear rz_4
        have rn_6 := hide (show Rd w22 (.slice (some ⟨g, 0, none⟩) 32 32) 1 32 (bvs (wantL N 8)) from rn_4.out.below hS22.below)
        clear rn_4
        have rm_6 := hide (show Rd w22 (.slice A21 32 c21) 1 32 (bvs (wantL N 8)) from q21.out.below hS22.below)
        clear q21
        (refine wpG_one (i := 11) (by kernel_rfl) rfl ?_; intro K hK; (try simp only [Act.put, List.setIfInBounds_toArray, List.set_cons_zero, List.set_cons_succ, List.getElem_toArray, List.getElem_cons_succ, List.getElem_cons_zero]))
        refine step_call rfl rfl enAdd rfl (addC (dbl_len a) (dbl_len b) rx_6.out ry_6.out) ?_
        rintro e w23 ⟨A23, c23, rfl, hb23, hr23⟩
        rw [HSU.out] at hr23
        refine ⟨_, rfl, hK (From w23) _ _ (From.next hb23) (From.refl _) ?_⟩
        have q23 := hide hr23
        clear hr23
        clear hK K
        (try simp only [Act.put, List.setIfInBounds_toArray, List.set_cons_zero, List.set_cons_succ, List.getElem_toArray, List.getElem_cons_succ, List.getElem_cons_zero])
        have B_7 := hide (show Below w.heap.size w (w23) from B_5.out.trans (hb23.mono B_5.out.size))
        clear B_5
        have rx_8 := hide (show Rd w23 (.slice A1 32 c1) 1 32 (bvs (dbl a)) from rx_6.out.below hb23)
        clear rx_6
        have ry_8 := hide (show Rd w23 (.slice A2 32 c2) 1 32 (bvs (dbl b)) from ry_6.out.below hb23)
        clear ry_6
        have rz_8 := hide (show Rd w23 (.slice A3 32 c3) 1 32 (bvs (dbl c)) from rz_6.out.below hb23)
        clear rz_6
        have rn_8 := hide (show Rd w23 (.slice (some ⟨g, 0, none⟩) 32 32) 1 32 (bvs (wantL N 8)) from rn_6.out.below hb23)
        clear rn_6
        have rm_8 := hide (show Rd w23 (.slice A21 32 c21) 1 32 (bvs (wantL N 8)) from rm_6.out.below hb23)
        clear rm_6
        have vs_8 : ∀ x, From (w23) x → (convert 22 9 (.slice A23 32 c23)).run Try.prog x = .ok (.string (strOf (three t))) x := fun x hx => run_str Try.underlying22 Try.underlying5 Try.underlying9 (q23.out.below hx)
        replace qt := hide (qt.out.below hb23)
        (refine wpG_take (i := 12) (v := ?_) rfl (by kernel_rfl) (by kernel_rfl) (by kernel_rfl) (fun _ _ _ h => h) (From.refl _) (Or.inl ⟨by rfl, ?_⟩) ?_; rotate_left; (intro wx hx; go_simp) <;> (with_reducible rfl); (try simp only [Act.put, List.setIfInBounds_toArray, List.set_cons_zero, List.set_cons_succ, List.getElem_toArray, List.getElem_cons_succ, List.getElem_cons_zero]))
        (refine wpG_one (i := 28) (by kernel_rfl) rfl ?_; intro K hK; (try simp only [Act.put, List.setIfInBounds_toArray, List.set_cons_zero, List.set_cons_succ, List.getElem_toArray, List.getElem_cons_succ, List.getElem_cons_zero]))
        refine step_call rfl rfl enFull rfl (fullThree t HT2.out qt.out) ?_
        rintro e w24 ⟨A24, c24, rfl, hb24, hr24⟩
        refine ⟨_, rfl, hK (From w24) _ _ (From.next hb24) (From.refl _) ?_⟩
        have q24 := hide hr24
        clear hr24
        clear hK K
        clear vs_8
        (try simp only [Act.put, List.setIfInBounds_toArray, List.set_cons_zero, List.set_cons_succ, List.getElem_toArray, List.getElem_cons_succ, List.getElem_cons_zero])
        have B_9 := hide (show Below w.heap.size w (w24) from B_7.out.trans (hb24.mono B_7.out.size))
        clear B_7
        have rx_10 := hide (show Rd w24 (.slice A1 32 c1) 1 32 (bvs (dbl a)) from rx_8.out.below hb24)
        clear rx_8
        have ry_10 := hide (show Rd w24 (.slice A2 32 c2) 1 32 (bvs (dbl b)) from ry_8.out.below hb24)
        clear ry_8
        have rz_10 := hide (show Rd w24 (.slice A3 32 c3) 1 32 (bvs (dbl c)) from rz_8.out.below hb24)
        clear rz_8
        have rn_10 := hide (show Rd w24 (.slice (some ⟨g, 0, none⟩) 32 32) 1 32 (bvs (wantL N 8)) from rn_8.out.below hb24)
        clear rn_8
        have rm_10 := hide (show Rd w24 (.slice A21 32 c21) 1 32 (bvs (wantL N 8)) from rm_8.out.below hb24)
        clear rm_8
        have rs_10 := hide (show Rd w24 (.slice A23 32 c23) 1 32 (bvs (three t)) from q23.out.below hb24)
        clear q23
        have vs_10 : ∀ x, From (w24) x → (convert 22 9 (.slice A23 32 c23)).run Try.prog x = .ok (.string (strOf (three t))) x := fun x hx => run_str Try.underlying22 Try.underlying5 Try.underlying9 (rs_10.out.below hx)
        have vf_10 : ∀ x, From (w24) x → (convert 22 9 (.slice A24 32 c24)).run Try.prog x = .ok (.string (strOf (three t))) x := fun x hx => run_str Try.underlying22 Try.underlying5 Try.underlying9 (q24.out.below hx)
        (refine wpG_take (i := 29) (v := ?_) rfl (by kernel_rfl) (by kernel_rfl) (by kernel_rfl) (fun _ _ _ h => h) (From.refl _) (Or.inl ⟨by rfl, ?_⟩) ?_; rotate_left; (intro wx hx; go_simp) <;> (with_reducible rfl); (try simp only [Act.put, List.setIfInBounds_toArray, List.set_cons_zero, List.set_cons_succ, List.getElem_toArray, List.getElem_cons_succ, List.getElem_cons_zero])); (refine wpG_take (i := 30) (v := ?_) rfl (by kernel_rfl) (by kernel_rfl) (by kernel_rfl) (fun _ _ _ h => h) (From.refl _) (Or.inl ⟨by rfl, ?_⟩) ?_; rotate_left; (intro wx hx; go_simp) <;> (with_reducible rfl); (try simp only [Act.put, List.setIfInBounds_toArray, List.set_cons_zero, List.set_cons_succ, List.getElem_toArray, List.getElem_cons_succ, List.getElem_cons_zero])); (refine wpG_take (i := 31) (v := ?_) rfl (by kernel_rfl) (by kernel_rfl) (by kernel_rfl) (fun _ _ _ h => h) (From.refl _) (Or.inl ⟨by rfl, ?_⟩) ?_; rotate_left; (intro wx hx; go_simp) <;> (with_reducible rfl); (try simp only [Act.put, List.setIfInBounds_toArray, List.set_cons_zero, List.set_cons_succ, List.getElem_toArray, List.getElem_cons_succ, List.getElem_cons_zero])); (refine wpG_take (i := 32) (v := ?_) rfl (by kernel_rfl) (by kernel_rfl) (by kernel_rfl) (fun _ _ _ h => h) (From.refl _) (Or.inl ⟨by rfl, ?_⟩) ?_; rotate_left; (intro wx hx; go_simp) <;> (with_reducible rfl); (try simp only [Act.put, List.setIfInBounds_toArray, List.set_cons_zero, List.set_cons_succ, List.getElem_toArray, List.getElem_cons_succ, List.getElem_cons_zero]))
        (refine wpG_one (i := 33) (by kernel_rfl) rfl ?_; intro K hK; (try simp only [Act.put, List.setIfInBounds_toArray, List.set_cons_zero, List.set_cons_succ, List.getElem_toArray, List.getElem_cons_succ, List.getElem_cons_zero]))
        refine step_call rfl rfl enAwake rfl (awake_any _) ?_
        rintro e w25 ⟨rfl, hb25⟩
        refine ⟨_, rfl, hK (From w25) _ _ (From.next hb25) (From.refl _) ?_⟩
        clear hK K
        clear vs_10 vf_10
        (try simp only [Act.put, List.setIfInBounds_toArray, List.set_cons_zero, List.set_cons_succ, List.getElem_toArray, List.getElem_cons_succ, List.getElem_cons_zero])
        have B_11 := hide (show Below w.heap.size w (w25) from B_9.out.trans (hb25.mono B_9.out.size))
        clear B_9
        have rx_12 := hide (show Rd w25 (.slice A1 32 c1) 1 32 (bvs (dbl a)) from rx_10.out.below hb25)
        clear rx_10
        have ry_12 := hide (show Rd w25 (.slice A2 32 c2) 1 32 (bvs (dbl b)) from ry_10.out.below hb25)
        clear ry_10
        have rz_12 := hide (show Rd w25 (.slice A3 32 c3) 1 32 (bvs (dbl c)) from rz_10.out.below hb25)
        clear rz_10
        have rn_12 := hide (show Rd w25 (.slice (some ⟨g, 0, none⟩) 32 32) 1 32 (bvs (wantL N 8)) from rn_10.out.below hb25)
        clear rn_10
        have rm_12 := hide (show Rd w25 (.slice A21 32 c21) 1 32 (bvs (wantL N 8)) from rm_10.out.below hb25)
        clear rm_10
        have rs_12 := hide (show Rd w25 (.slice A23 32 c23) 1 32 (bvs (three t)) from rs_10.out.below hb25)
        clear rs_10
        have rf_12 := hide (show Rd w25 (.slice A24 32 c24) 1 32 (bvs (three t)) from q24.out.below hb25)
        clear q24
        (refine wpG_take (i := 34) (v := ?_) rfl (by kernel_rfl) (by kernel_rfl) (by kernel_rfl) (fun _ _ _ h => h) (From.refl _) (Or.inl ⟨by rfl, ?_⟩) ?_; rotate_left; (intro wx hx; go_simp) <;> (with_reducible rfl); (try simp only [Act.put, List.setIfInBounds_toArray, List.set_cons_zero, List.set_cons_succ, List.getElem_toArray, List.getElem_cons_succ, List.getElem_cons_zero])); (refine wpG_take (i := 35) (v := ?_) rfl (by kernel_rfl) (by kernel_rfl) (by kernel_rfl) (fun _ _ _ h => h) (From.refl _) (Or.inl ⟨by rfl, ?_⟩) ?_; rotate_left; (intro wx hx; go_simp) <;> (with_reducible rfl); (try simp only [Act.put, List.setIfInBounds_toArray, List.set_cons_zero, List.set_cons_succ, List.getElem_toArray, List.getElem_cons_succ, List.getElem_cons_zero]))
        refine wpG_done (by kernel_rfl) ?_ _
        go_wp2_with fail
        go_ret
        exact ⟨rfl, B_11.out⟩
end Go.Proofs.Ytgofcefggdlalaa
