/-
  The page's Odd, power, Inv; the law's same.
-/
import Derived.Test.YtdihedhhkcakoaaNg
namespace Go.Proofs.Ytdihedhhkcakoaa
open Go.RowKit
set_option linter.unusedSimpArgs false

theorem and_one8 (n : Nat) (h : n < 256) : bits .and .u8 (n : Int) 1 = ((n % 2 : Nat) : Int) := by
  rw [show n % 2 = n &&& 1 from (Nat.and_two_pow_sub_one_eq_mod n 1).symm]
  exact u8_and_nat n 1 h (by omega)
set_option maxRecDepth 100000 in
set_option maxHeartbeats 1600000 in
theorem oddC {xs : List Int} {X : FK} (w : World) (h : NE xs X) :
    Calls Try.prog 29 #[.agg (ivs xs).toArray] w fun e w' => e = .returned (.bool (decide (X.val % 2 = 1))) ∧ Below w.heap.size w w' := by
  have HB1 := hide (fun W => bytesC W h)
  obtain ⟨xa, hxa⟩ : ∃ a, a = (ivs xs).toArray := ⟨_, rfl⟩
  have hsz : xa.size = 16 := by rw [hxa, List.size_toArray, ivs_len]; exact h.1.1
  rw [← hxa] at HB1 ⊢
  have HS := hide ((St.init w NoB).alloc xa 41)
  clear hxa h
  go_enter Try.func29, Try.ntmps29
  go_upto_region 1 with fail
  refine wp_region_list ?_
  refine wpList_load_row rfl 41 (.tmp 1) rfl w.heap.size rfl 41 xa _ _ (HS.out.heap 0 rfl) Try.underlying41 rfl (by rw [hsz]; kernel_rfl) ?_
  refine wl_callN rfl rfl enBytesN rfl (HB1.out _) ?_
  rintro e w1 ⟨B1, d1, rfl, hb1, ho1⟩
  refine ⟨_, rfl, ?_⟩
  have HS1 := hide (HS.out.call hb1)
  obtain ⟨b, o, rfl, hc⟩ := rd_at' (rd_own ho1) (bvs_get (l := leB 32 X.val) (j := 0) (c := UInt8.ofNat (X.val % 256)) rfl)
  obtain ⟨p, hp⟩ : ∃ p, p = X.val % 256 := ⟨_, rfl⟩
  have p256 : p < 256 := by omega
  rw [UInt8.toNat_ofNat', ← hp, Nat.mod_eq_of_lt (by omega : p < 2 ^ 8), Nat.add_zero] at hc
  have e1 := and_one8 p p256
  have e2 : (((p % 2 : Nat) : Int) == 1) = decide (X.val % 2 = 1) := by
    rw [Bool.eq_iff_iff, beq_iff_eq, decide_eq_true_iff]
    omega
  have e3 : decide (((p % 2 : Nat) : Int) = 1) = decide (X.val % 2 = 1) := by
    rw [decide_eq_decide]
    omega
  obtain ⟨r, hr⟩ : ∃ r, r = p % 2 := ⟨_, rfl⟩
  obtain ⟨bb, hbb⟩ : ∃ b, b = decide (X.val % 2 = 1) := ⟨_, rfl⟩
  rw [← hr] at e1 e2 e3
  rw [← hbb] at e2 e3
  have HBB := hide hbb
  clear hr hbb hp ho1
  go_wp2_with fail
  go_ret
  exact ⟨by rw [← HBB.out]; rfl, HS1.out.below⟩
theorem enLSame (args : Array Value) (w : World) : (callFunc 22 args).run Try.prog w = .ok (.enter 22 args) w := by kernel_rfl
set_option maxRecDepth 100000 in
set_option maxHeartbeats 1600000 in
theorem lsameC {a b c d e : Nat} {ys : List Int} {X : FK} (w : World) (h : ev [a, b, c, d, e] = X.val) (hr : Red [a, b, c, d, e]) (h2 : NE ys X) :
    Calls Try.prog 22 #[(.agg #[.int .u64 (a : Int), .int .u64 (b : Int), .int .u64 (c : Int), .int .u64 (d : Int), .int .u64 (e : Int)]), .agg (ivs ys).toArray] w fun e w' => e = .returned (.bool true) ∧ Below w.heap.size w w' := by
  have HB1 := hide (fun W => bytes32 a b c d e W (red_low hr))
  rw [h] at HB1
  have HB2 := hide (fun W => bytesC W h2)
  obtain ⟨ya, hya⟩ : ∃ a, a = (ivs ys).toArray := ⟨_, rfl⟩
  have hsy : ya.size = 16 := by rw [hya, List.size_toArray, ivs_len]; exact h2.1.1
  rw [← hya] at HB2 ⊢
  have HS := hide ((((St.init w NoB).alloc #[.int .u64 (a : Int), .int .u64 (b : Int), .int .u64 (c : Int), .int .u64 (d : Int), .int .u64 (e : Int)] 27).alloc ya 41).drew)
  rw [size_alloc1] at HS
  clear hya h hr h2
  go_enter Try.func22, Try.ntmps22
  go_upto_region 1 with fail
  refine wp_region_T [(0, 0), (3, 0), (1, 2), (2, 0), (4, 2), (5, 0), (6, 1), (7, 1)] (by kernel_rfl) (by kernel_rfl) (fun _ _ _ _ h => h) ?_
  generalize ((w.alloc (.cells #[.int .u64 (a : Int), .int .u64 (b : Int), .int .u64 (c : Int), .int .u64 (d : Int), .int .u64 (e : Int)] 27)).alloc (.cells ya 41)).drew = wd at HS ⊢
  go_wp2_with (first
      | (refine wpT_loadRow rfl rfl rfl HS.out 1 rfl rfl Try.underlying27 rfl (by kernel_rfl) ?_; (try simp only [Act.put, List.setIfInBounds_toArray, List.set_cons_zero, List.set_cons_succ, List.getElem_toArray, List.getElem_cons_succ, List.getElem_cons_zero]))
      | (refine wpT_loadRow rfl rfl rfl HS.out 0 rfl rfl Try.underlying41 rfl (by rw [hsy]; kernel_rfl) ?_; (try simp only [Act.put, List.setIfInBounds_toArray, List.set_cons_zero, List.set_cons_succ, List.getElem_toArray, List.getElem_cons_succ, List.getElem_cons_zero]))
      | (refine wpT_nil ?_)   | ((with_reducible refine fromT_refl ?_); (try simp only [Act.put, List.setIfInBounds_toArray, List.set_cons_zero, List.set_cons_succ, List.getElem_toArray, List.getElem_cons_succ, List.getElem_cons_zero]))   | ((with_reducible refine fromT_mk (by assumption) ?_); (try simp only [Act.put, List.setIfInBounds_toArray, List.set_cons_zero, List.set_cons_succ, List.getElem_toArray, List.getElem_cons_succ, List.getElem_cons_zero]))   | (refine wpT_pure (v := ?_) rfl rfl ?_ ?_; rotate_left; (intro wx; go_simp; try go_bits) <;> (with_reducible rfl); (try simp only [Act.put, List.setIfInBounds_toArray, List.set_cons_zero, List.set_cons_succ, List.getElem_toArray, List.getElem_cons_succ, List.getElem_cons_zero]))   | (refine wpT_load (v := ?_) rfl rfl rfl ?_ ?_; rotate_left; (go_simp; try go_bits) <;> (with_reducible rfl); (try simp only [Act.put, List.setIfInBounds_toArray, List.set_cons_zero, List.set_cons_succ, List.getElem_toArray, List.getElem_cons_succ, List.getElem_cons_zero]))   | (refine wpT_read (v := ?_) rfl rfl ?_ ?_; rotate_left; (intro wx hx; go_simp; try go_bits) <;> (with_reducible rfl); (try simp only [Act.put, List.setIfInBounds_toArray, List.set_cons_zero, List.set_cons_succ, List.getElem_toArray, List.getElem_cons_succ, List.getElem_cons_zero]))   | (refine wpT_call rfl rfl ?_; intro K hK)   | (refine wpT_late rfl rfl ?_; intro K hK)   | (refine wpT_any rfl rfl ?_; intro K hK)   | (refine wpT_skip rfl rfl ?_; (try simp only [Act.put, List.setIfInBounds_toArray, List.set_cons_zero, List.set_cons_succ, List.getElem_toArray, List.getElem_cons_succ, List.getElem_cons_zero]))
      | (go_at_call 11; (with_reducible refine (HB1.out _).mono ?_); rintro e w1 ⟨B1, d1, rfl, hb1, hr1⟩; have HR1 := hide hr1; have HS1 := hide (HS.out.call hb1); have cv1 : ∀ x, From w1 x → (convert 22 9 (.slice B1 32 d1)).run Try.prog x = .ok (.string (strOf (leB 32 X.val))) x := fun x hx => run_str Try.underlying22 Try.underlying5 Try.underlying9 (HR1.out.below hx); clear hr1)
      | (go_at_call 36; (with_reducible refine (HB2.out _).mono ?_); rintro e w2 ⟨B2, d2, rfl, hb2, ho2⟩; have HS2 := hide (HS1.out.row hb2 ho2); have cv2 : ∀ x, From w2 x → (convert 22 9 (.slice B2 32 d2)).run Try.prog x = .ok (.string (strOf (leB 32 X.val))) x := fun x hx => run_str Try.underlying22 Try.underlying5 Try.underlying9 ((HS2.out.rd 0 rfl).below hx); clear ho2))
  go_ret
  exact ⟨rfl, HS2.out.below⟩
/-! Powers. -/
def fpw (X : FK) (e : Nat) : FK := ⟨X.val ^ e % Pq, Nat.mod_lt _ pq_pos⟩
theorem fpw_val (X : FK) (e : Nat) : (fpw X e).val = X.val ^ e % Pq := rfl
theorem fpw_mul (X : FK) (e f : Nat) : fpw X e * fpw X f = fpw X (e + f) := Fin.ext (by rw [fmul_val, fpw_val, fpw_val, fpw_val, Nat.pow_add, ← Nat.mul_mod])
theorem fpw_one (X : FK) : fpw X 1 = X := Fin.ext (by rw [fpw_val, Nat.pow_one]; exact Nat.mod_eq_of_lt X.isLt)
theorem fpw_zero (X : FK) : (fpw X 0).val = 1 := by rw [fpw_val, Nat.pow_zero]; exact Nat.mod_eq_of_lt (by have := Pq_256.2; omega)
/-- The exponent of the bits from number k on. -/
def bitE (bs : List Bool) : Nat → Nat
  | 0 => 0
  | j + 1 => 2 * bitE bs j + (if bs.getD (254 - j) false then 1 else 0)
def blv (bs : List Bool) : List Value := bs.map Value.bool
theorem blv_len (bs : List Bool) : (blv bs).length = bs.length := by simp [blv]
theorem blv_get {bs : List Bool} {k : Nat} {x : Bool} (h : bs[k]? = some x) : (blv bs).toArray[k]? = some (.bool x) := by simp [blv, h]
def PwRel (w : World) (X : FK) (xs : List Int) (bs : List Bool) (g : Nat) (iv : Value) (wr : World) : Prop :=
  ∃ (j : Nat) (zs : List Int), j ≤ 255 ∧ iv = .int .i64 (254 - (j : Int)) ∧ NE zs (fpw X (bitE bs j)) ∧ St w NoB wr [.cells g (ivs zs).toArray 41, .cells (w.heap.size + 2) (ivs (List.replicate 16 0)).toArray 41, .cells (w.heap.size + 1) (blv bs).toArray 63, .cells w.heap.size (ivs xs).toArray 41]
theorem enMulN (args : Array Value) (w : World) : (callFunc 25 args).run Try.prog w = .ok (.enter 25 args) w := by kernel_rfl
theorem enSmallN (args : Array Value) (w : World) : (callFunc 27 args).run Try.prog w = .ok (.enter 27 args) w := by kernel_rfl
theorem ivs_size {zs : List Int} {X : FK} (h : NE zs X) : (ivs zs).toArray.size = 16 := by rw [List.size_toArray, ivs_len]; exact h.1.1
set_option maxRecDepth 100000 in
set_option maxHeartbeats 1600000 in
theorem powerN_any (xs : List Int) (X : FK) (bs : List Bool) (w : World) (h : NE xs X) (hb : bs.length = 255) :
    Calls Try.prog 38 #[.agg (ivs xs).toArray, .agg (blv bs).toArray] w (ResN w (fpw X (bitE bs 255))) := by
  have HN := hide h
  have HL := hide hb
  have hS0 := (((St.init w NoB).alloc (ivs xs).toArray 41).alloc (blv bs).toArray 63).alloc (ivs (List.replicate 16 0)).toArray 41
  rw [size_alloc1, size_alloc1] at hS0
  have HS0 := hide hS0
  clear hS0
  have HSM := hide (fun W => smallN_any 1 W (by omega))
  clear h hb
  go_enter Try.func38, Try.ntmps38
  go_upto_region 1 with fail
  refine wp_region_list ?_
  refine wl_callN rfl rfl enSmallN rfl (HSM.out _) ?_
  rintro e w1 ⟨rfl, hb1⟩
  refine ⟨_, rfl, ?_⟩
  have HS1 := hide (HS0.out.call hb1)
  have hne1 : NE [((1 % 65536 : Nat) : Int), ((1 / 65536 : Nat) : Int), 0, 0, 0, 0, 0, 0, 0, 0, 0, 0, 0, 0, 0, 0] (fpw X 0) := by
    refine ⟨(ne_small 1 (by omega)).1, ?_⟩
    rw [(ne_small 1 (by omega)).2, fpw_zero]
    have := Pq_256.2
    exact Int.emod_eq_of_lt (by omega) (by omega)
  obtain ⟨z1, hz1⟩ : ∃ z, z = [((1 % 65536 : Nat) : Int), ((1 / 65536 : Nat) : Int), 0, 0, 0, 0, 0, 0, 0, 0, 0, 0, 0, 0, 0, 0] := ⟨_, rfl⟩
  rw [← hz1] at hne1 ⊢
  have HZ1 := hide hne1
  clear hne1 hz1
  refine wpList_plain rfl ?_
  intro K hK
  go_simp
  refine hK _ _ ?_
  clear hK K
  have HS2 := hide (show St w NoB _ _ from HS1.out.alloc #[.int .i64 0, .int .i64 0, .int .i64 0, .int .i64 0, .int .i64 0, .int .i64 0, .int .i64 0, .int .i64 0, .int .i64 0, .int .i64 0, .int .i64 0, .int .i64 0, .int .i64 0, .int .i64 0, .int .i64 0, .int .i64 0] 41)
  obtain ⟨g, hg⟩ : ∃ g, g = w1.heap.size := ⟨_, rfl⟩
  rw [← hg] at HS2
  have HS3 := hide (show St w NoB _ [.cells g (ivs z1).toArray 41, .cells (w.heap.size + 2) (ivs (List.replicate 16 0)).toArray 41, .cells (w.heap.size + 1) (blv bs).toArray 63, .cells w.heap.size (ivs xs).toArray 41] from HS2.out.setRow 0 rfl (ivs z1).toArray)
  refine wpList_store_row rfl 41 (.tmp 5) (.tmp 7) rfl g (ivs z1).toArray (by rw [hg]; rfl) rfl 41 _ (HS2.out.heap 0 rfl) (by rw [ivs_size HZ1.out]; kernel_rfl) (by rw [ivs_size HZ1.out]; rfl) (ivs_all _) ?_
  refine wpList_nil ?_
  have hgE : w1.heap.size = g := hg.symm
  simp only [hgE]
  generalize ((w1.alloc (.cells #[.int .i64 0, .int .i64 0, .int .i64 0, .int .i64 0, .int .i64 0, .int .i64 0, .int .i64 0, .int .i64 0, .int .i64 0, .int .i64 0, .int .i64 0, .int .i64 0, .int .i64 0, .int .i64 0, .int .i64 0, .int .i64 0] 41)).setRow g (ivs z1).toArray) = wq at HS3 ⊢
  have hlt0 := Nat.le_refl w1.heap.size
  clear hgE hg HS2 HS1
  go_wp2_with fail
  go_loopw [6] (fun i wr => PwRel w X xs bs g i wr) (fun i _ => (intOf i + 1).toNat)
  case atStart => exact ⟨0, z1, by omega, rfl, HZ1.out, HS3.out⟩
  case round =>
    clear HS3 HZ1
    obtain ⟨j, zs, hj, rfl, hz, hS⟩ := hrel
    have HZ := hide hz
    have HS := hide hS
    by_cases hlt : j < 255
    · have dj : decide ((0 : Int) ≤ 254 - (j : Int)) = true := by simp; omega
      have jj : (0 : Int) ≤ 254 - (j : Int) := by omega
      have HM := hide (fun W => mulC W hz hz)
      obtain ⟨bb, hbb⟩ : ∃ b, bs[254 - j]? = some b := ⟨bs[254 - j]'(by rw [HL.out]; omega), List.getElem?_eq_getElem _⟩
      have hE : bitE bs (j + 1) = 2 * bitE bs j + (if bb then 1 else 0) := by rw [bitE, List.getD_eq_getElem?_getD, hbb]; rfl
      rw [fpw_mul, ← Nat.two_mul] at HM
      have HE := hide hE
      clear hz hS hE
      go_upto_region 5 with fail
      refine wp_region_list ?_
      refine wpList_load_row rfl 41 (.tmp 5) rfl g rfl 41 (ivs zs).toArray _ _ (HS.out.heap 0 rfl) Try.underlying41 rfl (by rw [ivs_size HZ.out]; kernel_rfl) ?_
      refine wpList_load_row rfl 41 (.tmp 5) rfl g rfl 41 (ivs zs).toArray _ _ (HS.out.heap 0 rfl) Try.underlying41 rfl (by rw [ivs_size HZ.out]; kernel_rfl) ?_
      refine wl_callN rfl rfl enMulN rfl (HM.out _) ?_
      rintro e w2 ⟨ys, hy, rfl, hb2⟩
      refine ⟨_, rfl, ?_⟩
      have HY := hide hy
      have HS1 := hide (HS.out.call hb2)
      have HS2 := hide (show St w NoB (w2.setRow g (ivs ys).toArray) [.cells g (ivs ys).toArray 41, .cells (w.heap.size + 2) (ivs (List.replicate 16 0)).toArray 41, .cells (w.heap.size + 1) (blv bs).toArray 63, .cells w.heap.size (ivs xs).toArray 41] from HS1.out.setRow 0 rfl (ivs ys).toArray)
      refine wpList_store_row rfl 41 (.tmp 5) (.tmp 14) rfl g (ivs ys).toArray rfl rfl 41 _ (HS1.out.heap 0 rfl) (by rw [ivs_size HY.out]; kernel_rfl) (by rw [ivs_size HY.out, ivs_size HZ.out]) (ivs_all _) ?_
      refine wpList_nil ?_
      generalize w2.setRow g (ivs ys).toArray = w3 at HS2 ⊢
      have cb : w3.cell? ⟨w.heap.size + 1, 254 - j, none⟩ = some (.bool bb) := by rw [HS2.out.cell 2 rfl (254 - j)]; exact blv_get hbb
      obtain ⟨q, hq⟩ : ∃ q, q = 254 - j := ⟨_, rfl⟩
      rw [← hq] at cb
      have hqi : (254 : Int) - (j : Int) = (q : Int) := by omega
      have q255 : (q : Int) < 255 := by omega
      have HQ := hide hqi
      rw [hqi] at jj dj
      clear HS HS1 hb2 hy hbb hq
      simp only [hqi]
      clear hqi
      cases bb with
      | false =>
        have hE2 := HE.out
        rw [if_neg Bool.false_ne_true, Nat.add_zero] at hE2
        have HE2 := hide hE2
        clear hE2 HE
        go_wp2_with fail
        go_roundw
        case rel => exact ⟨j + 1, ys, by omega, by rw [← HQ.out]; go_num, HE2.out ▸ HY.out, HS2.out⟩
        case measure => (have := HQ.out); (simp [intOf]) <;> omega
      | true =>
        have hE2 := HE.out
        rw [if_pos rfl] at hE2
        have HM2 := hide (fun W => mulC W HY.out HN.out)
        have hx1 : fpw X (2 * bitE bs j) * X = fpw X (bitE bs (j + 1)) := by rw [hE2, ← fpw_mul, fpw_one]
        rw [hx1] at HM2
        clear hE2 HE hx1
        go_upto_region 7 with fail
        refine wp_region_list ?_
        refine wpList_load_row rfl 41 (.tmp 5) rfl g rfl 41 (ivs ys).toArray _ _ (HS2.out.heap 0 rfl) Try.underlying41 rfl (by rw [ivs_size HY.out]; kernel_rfl) ?_
        refine wpList_load_row rfl 41 (.tmp 2) rfl w.heap.size rfl 41 (ivs xs).toArray _ _ (HS2.out.heap 3 rfl) Try.underlying41 rfl (by rw [ivs_size HN.out]; kernel_rfl) ?_
        refine wl_callN rfl rfl enMulN rfl (HM2.out _) ?_
        rintro e w4 ⟨us, hu, rfl, hb4⟩
        refine ⟨_, rfl, ?_⟩
        have HU := hide hu
        have HS3 := hide (HS2.out.call hb4)
        have HS4 := hide (show St w NoB (w4.setRow g (ivs us).toArray) [.cells g (ivs us).toArray 41, .cells (w.heap.size + 2) (ivs (List.replicate 16 0)).toArray 41, .cells (w.heap.size + 1) (blv bs).toArray 63, .cells w.heap.size (ivs xs).toArray 41] from HS3.out.setRow 0 rfl (ivs us).toArray)
        refine wpList_store_row rfl 41 (.tmp 5) (.tmp 20) rfl g (ivs us).toArray rfl rfl 41 _ (HS3.out.heap 0 rfl) (by rw [ivs_size HU.out]; kernel_rfl) (by rw [ivs_size HU.out, ivs_size HY.out]) (ivs_all _) ?_
        refine wpList_nil ?_
        generalize w4.setRow g (ivs us).toArray = w5 at HS4 ⊢
        clear HS2 HS3 hb4 hu cb
        go_wp2_with fail
        go_roundw
        case rel => exact ⟨j + 1, us, by omega, by rw [← HQ.out]; go_num, HU.out, HS4.out⟩
        case measure => (have := HQ.out); (simp [intOf]) <;> omega
    · obtain rfl : j = 255 := by omega
      clear hz hS
      go_upto_region 8 with fail
      refine wp_region_list ?_
      refine wpList_load_row rfl 41 (.tmp 5) rfl g rfl 41 (ivs zs).toArray _ _ (HS.out.heap 0 rfl) Try.underlying41 rfl (by rw [ivs_size HZ.out]; kernel_rfl) ?_
      have HS3 := hide (HS.out.setRow 1 rfl (ivs zs).toArray)
      refine wpList_store_row rfl 41 (.tmp 4) (.tmp 21) rfl (w.heap.size + 2) (ivs zs).toArray rfl rfl 41 _ (HS.out.heap 1 rfl) (by rw [ivs_size HZ.out]; kernel_rfl) (by rw [ivs_size HZ.out]; rfl) (ivs_all _) ?_
      refine wpList_nil ?_
      go_wp2_with fail
      refine bodyPost_ret (results_cell_row rfl _ _ (w.heap.size + 2) _ _ _ _ rfl (HS3.out.heap 1 rfl) Try.underlying41 rfl (by rw [ivs_size HZ.out]; kernel_rfl)) rfl ?_
      exact ⟨zs, HZ.out, rfl, HS3.out.below⟩
/-! The inverse. -/
def invB (i : Nat) : List Bool := (List.range 255).map (fun j => decide (j < i ∧ j ≠ 2 ∧ j ≠ 4))
theorem invB_len (i : Nat) : (invB i).length = 255 := by simp [invB]
theorem invB_get (i k : Nat) (h : k < 255) : (invB i)[k]? = some (decide (k < i ∧ k ≠ 2 ∧ k ≠ 4)) := by
  unfold invB
  rw [List.getElem?_map, List.getElem?_range h]
  rfl
theorem invB_set (i : Nat) (h : i < 255) : (invB i).set i (decide (i ≠ 2 ∧ i ≠ 4)) = invB (i + 1) := by
  apply List.ext_getElem?
  intro k
  rcases Nat.lt_or_ge k 255 with hk | hk
  · rw [invB_get _ _ hk, List.getElem?_set]
    split
    · rename_i e
      subst e
      rw [if_pos (by rw [invB_len]; exact hk)]
      congr 1
      rw [decide_eq_decide]
      omega
    · rw [invB_get _ _ hk]
      congr 1
      rw [decide_eq_decide]
      omega
  · rw [List.getElem?_eq_none (by rw [List.length_set, invB_len]; exact hk), List.getElem?_eq_none (by rw [invB_len]; exact hk)]
theorem invBE : bitE (invB 255) 255 = Pq - 2 := by unfold Pq; decide +kernel
theorem fpw_inv (X : FK) : fpw X (Pq - 2) = finv X := Fin.ext (by rw [fpw_val, finv_val])
theorem blv_set (bs : List Bool) (k : Nat) (b : Bool) : (blv bs).toArray.setIfInBounds k (.bool b) = (blv (bs.set k b)).toArray := by simp [blv, List.map_set]
def IvRel (w : World) (xs : List Int) (iv : Value) (wr : World) : Prop :=
  ∃ i : Nat, i ≤ 255 ∧ iv = .int .i64 (i : Int) ∧ St w NoB wr [.cells (w.heap.size + 2) (blv (invB i)).toArray 63, .cells (w.heap.size + 1) (ivs (List.replicate 16 0)).toArray 41, .cells w.heap.size (ivs xs).toArray 41]
theorem zero255 (W : World) : (zeroValue 63).run Try.prog W = .ok (.agg (blv (invB 0)).toArray) W := by kernel_rfl
theorem enPowerN (args : Array Value) (w : World) : (callFunc 38 args).run Try.prog w = .ok (.enter 38 args) w := by kernel_rfl
set_option maxRecDepth 100000 in
set_option maxHeartbeats 1600000 in
theorem invN_any (xs : List Int) (X : FK) (w : World) (h : NE xs X) :
    Calls Try.prog 26 #[.agg (ivs xs).toArray] w (ResN w (finv X)) := by
  have HN := hide h
  have HP := hide (fun W => powerN_any xs X (invB 255) W h (invB_len 255))
  rw [invBE, fpw_inv] at HP
  have hS0 := (((St.init w NoB).alloc (ivs xs).toArray 41).alloc (ivs (List.replicate 16 0)).toArray 41).alloc (blv (invB 0)).toArray 63
  rw [size_alloc1, size_alloc1] at hS0
  have HS0 := hide hS0
  have hz := zero255
  clear hS0 h
  go_enter Try.func26, Try.ntmps26
  go_wp2_with fail
  go_loopw [5] (fun i wr => IvRel w xs i wr) (fun i _ => 255 - (intOf i).toNat)
  case atStart => exact ⟨0, by omega, rfl, HS0.out⟩
  case round =>
    clear HS0 hz
    obtain ⟨i, hi, rfl, hS⟩ := hrel
    have HS := hide hS
    by_cases hlt : i < 255
    · have d255 : decide ((i : Int) < 255) = true := by simp; omega
      have i255 : (i : Int) < 255 := by omega
      have c0 : wr.cell? ⟨w.heap.size + 2, i, none⟩ = some (.bool (decide (i < i ∧ i ≠ 2 ∧ i ≠ 4))) := by rw [hS.cell 0 rfl i]; exact blv_get (invB_get i i hlt)
      have f0 := hS.free 0 rfl i
      have HT := hide (invB_set i hlt)
      clear hS
      by_cases h2 : i = 2
      · subst h2
        go_wp2_with fail
        go_roundw
        case rel =>
          have h3 := HS.out.setCell 0 rfl 2 (.bool false)
          rw [List.set_cons_zero, blv_set] at h3
          exact ⟨3, by omega, rfl, by have := HT.out; rw [show decide ((2 : Nat) ≠ 2 ∧ (2 : Nat) ≠ 4) = false from by decide] at this; rw [← this]; exact h3⟩
        case measure => (simp [intOf]) <;> omega
      · by_cases h4 : i = 4
        · subst h4
          go_wp2_with fail
          go_roundw
          case rel =>
            have h3 := HS.out.setCell 0 rfl 4 (.bool false)
            rw [List.set_cons_zero, blv_set] at h3
            exact ⟨5, by omega, rfl, by have := HT.out; rw [show decide ((4 : Nat) ≠ 2 ∧ (4 : Nat) ≠ 4) = false from by decide] at this; rw [← this]; exact h3⟩
          case measure => (simp [intOf]) <;> omega
        · have n2 : ¬ (i : Int) = 2 := by omega
          have n4 : ¬ (i : Int) = 4 := by omega
          have e2 : ((i : Int) != 2) = true := by simp; omega
          have e4 : ((i : Int) != 4) = true := by simp; omega
          have e2' : decide ((i : Int) = 2) = false := by simp; omega
          have e4' : decide ((i : Int) = 4) = false := by simp; omega
          have HT2 := hide (show (invB i).set i true = invB (i + 1) by have := HT.out; rw [show decide (i ≠ 2 ∧ i ≠ 4) = true from by simp; omega] at this; exact this)
          clear h2 h4 HT
          go_wp2_with fail
          go_roundw
          case rel =>
            have h3 := HS.out.setCell 0 rfl i (.bool true)
            rw [List.set_cons_zero, blv_set, HT2.out] at h3
            exact ⟨i + 1, by omega, by go_num, h3⟩
          case measure => (simp [intOf]) <;> omega
    · obtain rfl : i = 255 := by omega
      have hszB : (blv (invB 255)).toArray.size = 255 := by rw [List.size_toArray, blv_len, invB_len]
      clear hS
      go_upto_region 7 with fail
      refine wp_region_list ?_
      refine wpList_load_row rfl 41 (.tmp 1) rfl w.heap.size rfl 41 (ivs xs).toArray _ _ (HS.out.heap 2 rfl) Try.underlying41 rfl (by rw [ivs_size HN.out]; kernel_rfl) ?_
      refine wpList_load_row rfl 63 (.tmp 3) rfl (w.heap.size + 2) rfl 63 (blv (invB 255)).toArray _ _ (HS.out.heap 0 rfl) Try.underlying63 rfl (by rw [hszB]; kernel_rfl) ?_
      refine wl_callN rfl rfl enPowerN rfl (HP.out _) ?_
      rintro e w2 ⟨ys, hy, rfl, hb2⟩
      refine ⟨_, rfl, ?_⟩
      have HY := hide hy
      have HS1 := hide (HS.out.call hb2)
      have HS3 := hide (HS1.out.setRow 1 rfl (ivs ys).toArray)
      clear HS hy
      refine wpList_store_row rfl 41 (.tmp 2) (.tmp 19) rfl (w.heap.size + 1) (ivs ys).toArray rfl rfl 41 _ (HS1.out.heap 1 rfl) (by rw [ivs_size HY.out]; kernel_rfl) (by rw [ivs_size HY.out]; rfl) (ivs_all _) ?_
      refine wpList_nil ?_
      go_wp2_with fail
      refine bodyPost_ret (results_cell_row rfl _ _ (w.heap.size + 1) _ _ _ _ rfl (HS3.out.heap 1 rfl) Try.underlying41 rfl (by rw [ivs_size HY.out]; kernel_rfl)) rfl ?_
      exact ⟨ys, HY.out, rfl, HS3.out.below⟩
end Go.Proofs.Ytdihedhhkcakoaa
