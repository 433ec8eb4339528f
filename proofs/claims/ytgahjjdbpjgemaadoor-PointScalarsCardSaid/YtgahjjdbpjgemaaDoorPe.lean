/-
  Joined of texts of mine, in build order: Nf, Ng, Nh, Be, Bf, Bg, Bh. Each says what it proves at its own head.
-/
import Derived.Test.YtgahjjdbpjgemaaDoorPd
set_option linter.unusedSimpArgs false
set_option linter.unusedVariables false

/-
  The page's FromBytes, Small.
-/
namespace Go.Proofs.YtgahjjdbpjgemaaDoor
open Go.RowKit
set_option linter.unusedSimpArgs false

theorem rd_at' {w : World} {B : Option Addr} {n d : Nat} {xs : List Value} {k : Nat} {u : Value} (h : Rd w (.slice B n d) 1 n xs) (hk : xs[k]? = some u) : ∃ b o, B = some ⟨b, o, none⟩ ∧ w.cell? ⟨b, o + k, none⟩ = some u := by
  rcases h.cases with ⟨_, _, h0⟩ | ⟨b, o, sp, c', hv, _, _, _, hl, h4, hc⟩
  · rw [h0] at hk; simp at hk
  · injection hv with hv1 _ _
    have hkl : k < xs.length := (List.getElem?_eq_some_iff.1 hk).1
    have := h4 (by omega)
    subst this hv1
    exact ⟨b, o, rfl, hc k u hk⟩
/-- The page's number behind k bytes. -/
def frL (l : List UInt8) : Nat → List Int
  | 0 => List.replicate 16 0
  | k + 1 => (frL l k).set (k / 2) ((frL l k).getD (k / 2) 0 + ((l.getD k 0).toNat : Int) * 256 ^ (k % 2))
theorem frL_len (l : List UInt8) : ∀ k, (frL l k).length = 16
  | 0 => rfl
  | k + 1 => by rw [frL, List.length_set, frL_len l k]
theorem frL_bd (l : List UInt8) : ∀ (k j : Nat), 0 ≤ (frL l k).getD j 0 ∧ (frL l k).getD j 0 ≤ (if 2 * j < k then 255 else 0) + (if 2 * j + 1 < k then 65280 else 0)
  | 0, j => by
    have : (List.replicate 16 (0 : Int)).getD j 0 = 0 := by rw [List.getD_eq_getElem?_getD, List.getElem?_replicate]; split <;> rfl
    rw [frL, this]
    simp
  | k + 1, j => by
    have ih := frL_bd l k j
    have ih2 := frL_bd l k (k / 2)
    have hc := UInt8.toNat_lt (l.getD k 0)
    rw [frL, getD_set]
    split
    · rename_i h
      obtain ⟨h, _⟩ := h
      subst h
      rcases Nat.mod_two_eq_zero_or_one k with hm | hm
      · rw [hm, Int.pow_zero, Int.mul_one]
        rw [if_neg (by omega), if_neg (by omega)] at ih2
        rw [if_pos (by omega), if_neg (by omega)]
        omega
      · rw [hm, Int.pow_one]
        rw [if_pos (by omega), if_neg (by omega)] at ih2
        rw [if_pos (by omega), if_pos (by omega)]
        omega
    · refine ⟨ih.1, Int.le_trans ih.2 ?_⟩
      split <;> split <;> split <;> split <;> omega
theorem frL_nv (l : List UInt8) : ∀ k, k ≤ 32 → k ≤ l.length → nv (frL l k) = (bval (l.take k) : Int)
  | 0, _, _ => by rw [List.take_zero]; rfl
  | k + 1, hk, hl => by
    have hx : l[k]? = some l[k] := List.getElem?_eq_getElem (by omega)
    have hg : l.getD k 0 = l[k] := by rw [List.getD_eq_getElem?_getD, hx]; rfl
    have e : (256 : Int) ^ (k % 2) * 65536 ^ (k / 2) = 256 ^ k := by
      rw [show (65536 : Int) = 256 ^ 2 from rfl, ← Int.pow_mul, ← Int.pow_add]
      congr 1
      omega
    rw [frL, nv_set _ _ _ (by rw [frL_len]; omega), frL_nv l k (by omega) (by omega), bval_take hx, hg]
    rw [show (frL l k).getD (k / 2) 0 + ((l[k]).toNat : Int) * 256 ^ (k % 2) - (frL l k).getD (k / 2) 0 = ((l[k]).toNat : Int) * 256 ^ (k % 2) from by omega, Int.mul_assoc, e]
    rw [Int.natCast_add, Int.natCast_mul, Int.natCast_pow]
    rfl
theorem bval_fullT (l : List UInt8) : bval (fullL l) = bval (l.take (min l.length 32)) := by
  unfold fullL
  rcases Nat.le_total l.length 32 with h | h
  · rw [Nat.min_eq_left h, List.take_of_length_le (Nat.le_refl _), List.take_append, List.take_of_length_le h, bval_append, List.take_replicate, bval_zeros]
    omega
  · rw [Nat.min_eq_right h, List.take_append_of_le_length h]
/-- Rows that stand for an element of the field. -/
def NE (xs : List Int) (X : FK) : Prop := NB xs ∧ nv xs % (Pq : Int) = (X.val : Int)
theorem frL_ne (l : List UInt8) : NE (frL l (min l.length 32)) (fbytes l) := by
  refine ⟨⟨frL_len _ _, fun k x hx => ?_⟩, ?_⟩
  · have h := frL_bd l (min l.length 32) k
    rw [getD_of hx] at h
    split at h <;> split at h <;> split <;> omega
  · rw [frL_nv l _ (Nat.min_le_right _ _) (Nat.min_le_left _ _), ← bval_fullT]
    rfl
def FrRel (w : World) (l : List UInt8) (m : Nat) (iv : Value) (wr : World) : Prop :=
  ∃ i : Nat, i ≤ m ∧ iv = .int .i64 (i : Int) ∧ St w NoB wr [.cells (w.heap.size + 1) (ivs (frL l i)).toArray 34, .cells w.heap.size (ivs (List.replicate 16 0)).toArray 34]
set_option maxRecDepth 100000 in
set_option maxHeartbeats 1600000 in
theorem frBytes_lo (A : Option Addr) (n c : Nat) (l : List UInt8) (w : World) (hl : l.length = n) (hn : n ≤ 1000) (hr : Rd w (.slice A n c) 1 n (bvs l)) (h32 : n ≤ 32) :
    Calls Tryd.prog 54 #[.slice A n c] w fun e w' => e = .returned (.agg (ivs (frL l n)).toArray) ∧ Below w.heap.size w w' := by
  have HR := hide hr
  have HL := hide hl
  have HS0 := ((St.init w NoB).alloc (ivs (List.replicate 16 0)).toArray 34).alloc (ivs (List.replicate 16 0)).toArray 34
  rw [size_alloc1] at HS0
  have HS := hide HS0
  have dn : decide ((32 : Int) < (n : Int)) = false := by simp; omega
  have HNN := hide h32
  clear HS0 hr hl
  go_enter Tryd.func54, Tryd.ntmps54
  go_wp2_with fail
  go_loopw [8] (fun i wr => FrRel w l n i wr) (fun i _ => n - (intOf i).toNat)
  case atStart => exact ⟨0, by omega, rfl, HS.out⟩
  case round =>
    clear HS h32
    obtain ⟨i, hi, rfl, hS⟩ := hrel
    have HS := hide hS
    by_cases hlt : i < n
    · have dm : decide ((i : Int) < (n : Int)) = true := by simp; omega
      have im : (i : Int) < (n : Int) := by omega
      have hin : i < n := by have := HNN.out; omega
      have i32 : i < 32 := by have := HNN.out; omega
      have inn : (i : Int) < (n : Int) := by omega
      have hxb : l[i]? = some (l.getD i 0) := by rw [List.getD_eq_getElem?_getD, List.getElem?_eq_getElem (by rw [HL.out]; exact hin)]; rfl
      obtain ⟨b, o, rfl, hcb⟩ := rd_at' (HR.out.st hS.drew) (bvs_get hxb)
      obtain ⟨ch, hch⟩ : ∃ c : Nat, c = (l.getD i 0).toNat := ⟨_, rfl⟩
      have hc8 : ch < 256 := by rw [hch]; exact UInt8.toNat_lt _
      have HCH := hide hch
      rw [← hch] at hcb
      obtain ⟨q, hq⟩ : ∃ q, q = i / 2 := ⟨_, rfl⟩
      have hbd := frL_bd l i q
      have e1 : (i : Int).tdiv 2 = (q : Int) := by rw [Int.tdiv_eq_ediv_of_nonneg (by omega)]; omega
      have q16 : q < 16 := by omega
      have c0 : wr.drew.cell? ⟨w.heap.size + 1, q, none⟩ = some (.int .i64 ((frL l i).getD q 0)) := by rw [hS.drew.cell 0 rfl q]; exact ivs_get (len16 (frL_len l i) q16)
      have f0 := hS.drew.free 0 rfl q
      have qi : (q : Int) < 16 := by omega
      have HT := hide (show (frL l i).set q ((frL l i).getD q 0 + (ch : Int) * 256 ^ (i % 2)) = frL l (i + 1) by rw [hq, hch]; rfl)
      obtain ⟨x, hx⟩ : ∃ x, x = (frL l i).getD q 0 := ⟨_, rfl⟩
      rw [← hx] at c0 hbd HT
      have x0 : 0 ≤ x := hbd.1
      have x1 : x ≤ 65535 := by have := hbd.2; split at this <;> split at this <;> omega
      clear hx hbd hch hS hxb
      rcases Nat.mod_two_eq_zero_or_one i with hm2 | hm2
      · have e2 : (i : Int).tmod 2 = 0 := by rw [Int.tmod_eq_emod_of_nonneg (by omega)]; omega
        rw [hm2, Int.pow_zero, Int.mul_one] at HT
        clear hq hm2
        go_upto_region 5 with fail
        refine wp_region_T [(0, 1), (1, 1), (2, 1), (3, 0), (4, 1), (5, 1), (6, 1), (7, 0), (8, 1), (9, 1), (10, 1), (11, 1), (12, 1), (13, 1), (14, 1), (15, 1), (16, 3)] (by kernel_rfl) (by kernel_rfl) (fun _ _ _ _ h => h) ?_
        go_wp2_with (first | (refine wpT_nil ?_)   | ((with_reducible refine fromT_refl ?_); (try simp only [Act.put, nq1, nq2, nq3, nq4, nq5, nq6]))   | ((with_reducible refine fromT_mk (by assumption) ?_); (try simp only [Act.put, nq1, nq2, nq3, nq4, nq5, nq6]))   | (refine wpT_pure (v := ?_) rfl rfl ?_ ?_; rotate_left; (intro wx; go_simp; try go_bits) <;> (with_reducible rfl); (try simp only [Act.put, nq1, nq2, nq3, nq4, nq5, nq6]))   | (refine wpT_load (v := ?_) rfl rfl rfl ?_ ?_; rotate_left; (go_simp; try go_bits) <;> (with_reducible rfl); (try simp only [Act.put, nq1, nq2, nq3, nq4, nq5, nq6]))   | (refine wpT_read (v := ?_) rfl rfl ?_ ?_; rotate_left; (intro wx hx; go_simp; try go_bits) <;> (with_reducible rfl); (try simp only [Act.put, nq1, nq2, nq3, nq4, nq5, nq6]))   | (refine wpT_call rfl rfl ?_; intro K hK)   | (refine wpT_late rfl rfl ?_; intro K hK)   | (refine wpT_any rfl rfl ?_; intro K hK)   | (refine wpT_skip rfl rfl ?_; (try simp only [Act.put, nq1, nq2, nq3, nq4, nq5, nq6])))
        go_roundw
        case rel =>
          have h3 := HS.out.drew.setCell 0 rfl q (.int .i64 (x + (ch : Int)))
          simp only [List.set_cons_zero, ivs_set] at h3
          rw [HT.out] at h3
          exact ⟨i + 1, by omega, by go_num, h3⟩
        case measure => (simp [intOf]) <;> omega
      · have e2 : (i : Int).tmod 2 = 1 := by rw [Int.tmod_eq_emod_of_nonneg (by omega)]; omega
        rw [hm2, Int.pow_succ, Int.pow_zero, Int.one_mul] at HT
        clear hq hm2
        go_upto_region 5 with fail
        refine wp_region_T [(0, 1), (1, 1), (2, 1), (3, 0), (4, 1), (5, 1), (6, 1), (7, 0), (8, 1), (9, 1), (10, 1), (11, 1), (12, 1), (13, 1), (14, 1), (15, 1), (16, 3)] (by kernel_rfl) (by kernel_rfl) (fun _ _ _ _ h => h) ?_
        go_wp2_with (first | (refine wpT_nil ?_)   | ((with_reducible refine fromT_refl ?_); (try simp only [Act.put, nq1, nq2, nq3, nq4, nq5, nq6]))   | ((with_reducible refine fromT_mk (by assumption) ?_); (try simp only [Act.put, nq1, nq2, nq3, nq4, nq5, nq6]))   | (refine wpT_pure (v := ?_) rfl rfl ?_ ?_; rotate_left; (intro wx; go_simp; try go_bits) <;> (with_reducible rfl); (try simp only [Act.put, nq1, nq2, nq3, nq4, nq5, nq6]))   | (refine wpT_load (v := ?_) rfl rfl rfl ?_ ?_; rotate_left; (go_simp; try go_bits) <;> (with_reducible rfl); (try simp only [Act.put, nq1, nq2, nq3, nq4, nq5, nq6]))   | (refine wpT_read (v := ?_) rfl rfl ?_ ?_; rotate_left; (intro wx hx; go_simp; try go_bits) <;> (with_reducible rfl); (try simp only [Act.put, nq1, nq2, nq3, nq4, nq5, nq6]))   | (refine wpT_call rfl rfl ?_; intro K hK)   | (refine wpT_late rfl rfl ?_; intro K hK)   | (refine wpT_any rfl rfl ?_; intro K hK)   | (refine wpT_skip rfl rfl ?_; (try simp only [Act.put, nq1, nq2, nq3, nq4, nq5, nq6])))
        go_roundw
        case rel =>
          have h3 := HS.out.drew.setCell 0 rfl q (.int .i64 (x + (ch : Int) * 256))
          simp only [List.set_cons_zero, ivs_set] at h3
          rw [HT.out] at h3
          exact ⟨i + 1, by omega, by go_num, h3⟩
        case measure => (simp [intOf]) <;> omega
    · obtain rfl : n = i := by omega
      obtain ⟨ra, hra⟩ : ∃ a, a = (ivs (frL l n)).toArray := ⟨_, rfl⟩
      have hsr : ra.size = 16 := by rw [hra, List.size_toArray, ivs_len, frL_len]
      have hor : ra.all (·.oneCell') = true := by rw [hra]; exact ivs_all _
      rw [← hra] at hS
      have HRA := hide hra
      have HS1 := hide hS
      have HS2 := hide (hS.setRow 1 rfl ra)
      clear hS HS hra
      go_upto_region 7 with fail
      refine wp_region_list ?_
      refine wpList_load_row rfl 34 (.tmp 3) rfl (w.heap.size + 1) rfl 34 ra _ _ (HS1.out.heap 0 rfl) Tryd.underlying34 rfl (by rw [hsr]; kernel_rfl) ?_
      refine wpList_store_row rfl 34 (.tmp 2) (.tmp 28) rfl w.heap.size ra rfl rfl 34 _ (HS1.out.heap 1 rfl) (by rw [hsr]; kernel_rfl) (by rw [hsr]; rfl) hor ?_
      refine wpList_nil ?_
      go_wp2_with fail
      refine bodyPost_ret (results_cell_row rfl _ _ w.heap.size _ _ _ _ rfl (HS2.out.heap 1 rfl) Tryd.underlying34 rfl (by rw [hsr]; kernel_rfl)) rfl ?_
      exact ⟨by rw [HRA.out], HS2.out.below⟩
set_option maxRecDepth 100000 in
set_option maxHeartbeats 1600000 in
theorem frBytes_hi (A : Option Addr) (n c : Nat) (l : List UInt8) (w : World) (hl : l.length = n) (hn : n ≤ 1000) (hr : Rd w (.slice A n c) 1 n (bvs l)) (h32 : 32 < n) :
    Calls Tryd.prog 54 #[.slice A n c] w fun e w' => e = .returned (.agg (ivs (frL l 32)).toArray) ∧ Below w.heap.size w w' := by
  have HR := hide hr
  have HL := hide hl
  have HS0 := ((St.init w NoB).alloc (ivs (List.replicate 16 0)).toArray 34).alloc (ivs (List.replicate 16 0)).toArray 34
  rw [size_alloc1] at HS0
  have HS := hide HS0
  have dn : decide ((32 : Int) < (n : Int)) = true := by simp; omega
  have HNN := hide h32
  clear HS0 hr hl
  go_enter Tryd.func54, Tryd.ntmps54
  go_wp2_with fail
  go_loopw [8] (fun i wr => FrRel w l 32 i wr) (fun i _ => 32 - (intOf i).toNat)
  case atStart => exact ⟨0, by omega, rfl, HS.out⟩
  case round =>
    clear HS h32
    obtain ⟨i, hi, rfl, hS⟩ := hrel
    have HS := hide hS
    by_cases hlt : i < 32
    · have dm : decide ((i : Int) < 32) = true := by simp; omega
      have im : (i : Int) < 32 := by omega
      have hin : i < n := by have := HNN.out; omega
      have i32 : i < 32 := by have := HNN.out; omega
      have inn : (i : Int) < (n : Int) := by omega
      have hxb : l[i]? = some (l.getD i 0) := by rw [List.getD_eq_getElem?_getD, List.getElem?_eq_getElem (by rw [HL.out]; exact hin)]; rfl
      obtain ⟨b, o, rfl, hcb⟩ := rd_at' (HR.out.st hS.drew) (bvs_get hxb)
      obtain ⟨ch, hch⟩ : ∃ c : Nat, c = (l.getD i 0).toNat := ⟨_, rfl⟩
      have hc8 : ch < 256 := by rw [hch]; exact UInt8.toNat_lt _
      have HCH := hide hch
      rw [← hch] at hcb
      obtain ⟨q, hq⟩ : ∃ q, q = i / 2 := ⟨_, rfl⟩
      have hbd := frL_bd l i q
      have e1 : (i : Int).tdiv 2 = (q : Int) := by rw [Int.tdiv_eq_ediv_of_nonneg (by omega)]; omega
      have q16 : q < 16 := by omega
      have c0 : wr.drew.cell? ⟨w.heap.size + 1, q, none⟩ = some (.int .i64 ((frL l i).getD q 0)) := by rw [hS.drew.cell 0 rfl q]; exact ivs_get (len16 (frL_len l i) q16)
      have f0 := hS.drew.free 0 rfl q
      have qi : (q : Int) < 16 := by omega
      have HT := hide (show (frL l i).set q ((frL l i).getD q 0 + (ch : Int) * 256 ^ (i % 2)) = frL l (i + 1) by rw [hq, hch]; rfl)
      obtain ⟨x, hx⟩ : ∃ x, x = (frL l i).getD q 0 := ⟨_, rfl⟩
      rw [← hx] at c0 hbd HT
      have x0 : 0 ≤ x := hbd.1
      have x1 : x ≤ 65535 := by have := hbd.2; split at this <;> split at this <;> omega
      clear hx hbd hch hS hxb
      rcases Nat.mod_two_eq_zero_or_one i with hm2 | hm2
      · have e2 : (i : Int).tmod 2 = 0 := by rw [Int.tmod_eq_emod_of_nonneg (by omega)]; omega
        rw [hm2, Int.pow_zero, Int.mul_one] at HT
        clear hq hm2
        go_upto_region 5 with fail
        refine wp_region_T [(0, 1), (1, 1), (2, 1), (3, 0), (4, 1), (5, 1), (6, 1), (7, 0), (8, 1), (9, 1), (10, 1), (11, 1), (12, 1), (13, 1), (14, 1), (15, 1), (16, 3)] (by kernel_rfl) (by kernel_rfl) (fun _ _ _ _ h => h) ?_
        go_wp2_with (first | (refine wpT_nil ?_)   | ((with_reducible refine fromT_refl ?_); (try simp only [Act.put, nq1, nq2, nq3, nq4, nq5, nq6]))   | ((with_reducible refine fromT_mk (by assumption) ?_); (try simp only [Act.put, nq1, nq2, nq3, nq4, nq5, nq6]))   | (refine wpT_pure (v := ?_) rfl rfl ?_ ?_; rotate_left; (intro wx; go_simp; try go_bits) <;> (with_reducible rfl); (try simp only [Act.put, nq1, nq2, nq3, nq4, nq5, nq6]))   | (refine wpT_load (v := ?_) rfl rfl rfl ?_ ?_; rotate_left; (go_simp; try go_bits) <;> (with_reducible rfl); (try simp only [Act.put, nq1, nq2, nq3, nq4, nq5, nq6]))   | (refine wpT_read (v := ?_) rfl rfl ?_ ?_; rotate_left; (intro wx hx; go_simp; try go_bits) <;> (with_reducible rfl); (try simp only [Act.put, nq1, nq2, nq3, nq4, nq5, nq6]))   | (refine wpT_call rfl rfl ?_; intro K hK)   | (refine wpT_late rfl rfl ?_; intro K hK)   | (refine wpT_any rfl rfl ?_; intro K hK)   | (refine wpT_skip rfl rfl ?_; (try simp only [Act.put, nq1, nq2, nq3, nq4, nq5, nq6])))
        go_roundw
        case rel =>
          have h3 := HS.out.drew.setCell 0 rfl q (.int .i64 (x + (ch : Int)))
          simp only [List.set_cons_zero, ivs_set] at h3
          rw [HT.out] at h3
          exact ⟨i + 1, by omega, by go_num, h3⟩
        case measure => (simp [intOf]) <;> omega
      · have e2 : (i : Int).tmod 2 = 1 := by rw [Int.tmod_eq_emod_of_nonneg (by omega)]; omega
        rw [hm2, Int.pow_succ, Int.pow_zero, Int.one_mul] at HT
        clear hq hm2
        go_upto_region 5 with fail
        refine wp_region_T [(0, 1), (1, 1), (2, 1), (3, 0), (4, 1), (5, 1), (6, 1), (7, 0), (8, 1), (9, 1), (10, 1), (11, 1), (12, 1), (13, 1), (14, 1), (15, 1), (16, 3)] (by kernel_rfl) (by kernel_rfl) (fun _ _ _ _ h => h) ?_
        go_wp2_with (first | (refine wpT_nil ?_)   | ((with_reducible refine fromT_refl ?_); (try simp only [Act.put, nq1, nq2, nq3, nq4, nq5, nq6]))   | ((with_reducible refine fromT_mk (by assumption) ?_); (try simp only [Act.put, nq1, nq2, nq3, nq4, nq5, nq6]))   | (refine wpT_pure (v := ?_) rfl rfl ?_ ?_; rotate_left; (intro wx; go_simp; try go_bits) <;> (with_reducible rfl); (try simp only [Act.put, nq1, nq2, nq3, nq4, nq5, nq6]))   | (refine wpT_load (v := ?_) rfl rfl rfl ?_ ?_; rotate_left; (go_simp; try go_bits) <;> (with_reducible rfl); (try simp only [Act.put, nq1, nq2, nq3, nq4, nq5, nq6]))   | (refine wpT_read (v := ?_) rfl rfl ?_ ?_; rotate_left; (intro wx hx; go_simp; try go_bits) <;> (with_reducible rfl); (try simp only [Act.put, nq1, nq2, nq3, nq4, nq5, nq6]))   | (refine wpT_call rfl rfl ?_; intro K hK)   | (refine wpT_late rfl rfl ?_; intro K hK)   | (refine wpT_any rfl rfl ?_; intro K hK)   | (refine wpT_skip rfl rfl ?_; (try simp only [Act.put, nq1, nq2, nq3, nq4, nq5, nq6])))
        go_roundw
        case rel =>
          have h3 := HS.out.drew.setCell 0 rfl q (.int .i64 (x + (ch : Int) * 256))
          simp only [List.set_cons_zero, ivs_set] at h3
          rw [HT.out] at h3
          exact ⟨i + 1, by omega, by go_num, h3⟩
        case measure => (simp [intOf]) <;> omega
    · obtain rfl : 32 = i := by omega
      obtain ⟨ra, hra⟩ : ∃ a, a = (ivs (frL l 32)).toArray := ⟨_, rfl⟩
      have hsr : ra.size = 16 := by rw [hra, List.size_toArray, ivs_len, frL_len]
      have hor : ra.all (·.oneCell') = true := by rw [hra]; exact ivs_all _
      rw [← hra] at hS
      have HRA := hide hra
      have HS1 := hide hS
      have HS2 := hide (hS.setRow 1 rfl ra)
      clear hS HS hra
      go_upto_region 7 with fail
      refine wp_region_list ?_
      refine wpList_load_row rfl 34 (.tmp 3) rfl (w.heap.size + 1) rfl 34 ra _ _ (HS1.out.heap 0 rfl) Tryd.underlying34 rfl (by rw [hsr]; kernel_rfl) ?_
      refine wpList_store_row rfl 34 (.tmp 2) (.tmp 28) rfl w.heap.size ra rfl rfl 34 _ (HS1.out.heap 1 rfl) (by rw [hsr]; kernel_rfl) (by rw [hsr]; rfl) hor ?_
      refine wpList_nil ?_
      go_wp2_with fail
      refine bodyPost_ret (results_cell_row rfl _ _ w.heap.size _ _ _ _ rfl (HS2.out.heap 1 rfl) Tryd.underlying34 rfl (by rw [hsr]; kernel_rfl)) rfl ?_
      exact ⟨by rw [HRA.out], HS2.out.below⟩
theorem frN_any (A : Option Addr) (n c : Nat) (l : List UInt8) (w : World) (hl : l.length = n) (hn : n ≤ 1000) (hr : Rd w (.slice A n c) 1 n (bvs l)) :
    Calls Tryd.prog 54 #[.slice A n c] w fun e w' => ∃ xs, NE xs (fbytes l) ∧ e = .returned (.agg (ivs xs).toArray) ∧ Below w.heap.size w w' := by
  have hne := frL_ne l
  rw [hl] at hne
  rcases Nat.lt_or_ge 32 n with h | h
  · rw [Nat.min_eq_right (by omega)] at hne
    exact (frBytes_hi A n c l w hl hn hr h).mono fun e w' he => ⟨_, hne, he⟩
  · rw [Nat.min_eq_left h] at hne
    exact (frBytes_lo A n c l w hl hn hr h).mono fun e w' he => ⟨_, hne, he⟩
theorem ne_small (n : Nat) (h : n < 4294967296) : NB [((n % 65536 : Nat) : Int), ((n / 65536 : Nat) : Int), 0, 0, 0, 0, 0, 0, 0, 0, 0, 0, 0, 0, 0, 0] ∧ nv [((n % 65536 : Nat) : Int), ((n / 65536 : Nat) : Int), 0, 0, 0, 0, 0, 0, 0, 0, 0, 0, 0, 0, 0, 0] = (n : Int) := by
  refine ⟨⟨rfl, fun k x hx => ?_⟩, by simp only [nv]; omega⟩
  match k, hx with
  | 0, hx => simp at hx; subst hx; omega
  | 1, hx => simp at hx; subst hx; omega
  | k + 2, hx =>
    have : x = 0 := by
      have hm := List.mem_of_getElem? hx
      have h2 := List.mem_of_getElem? (l := List.replicate 14 (0 : Int)) (i := k) (a := x) (by simpa using hx)
      exact (List.mem_replicate.1 h2).2
    subst this
    simp
set_option maxRecDepth 100000 in
set_option maxHeartbeats 1600000 in
theorem smallN_any (n : Nat) (w : World) (h : n < 4294967296) :
    Calls Tryd.prog 33 #[.int .u32 (n : Int)] w fun e w' => e = .returned (.agg (ivs [((n % 65536 : Nat) : Int), ((n / 65536 : Nat) : Int), 0, 0, 0, 0, 0, 0, 0, 0, 0, 0, 0, 0, 0, 0]).toArray) ∧ Below w.heap.size w w' := by
  have e1 : bits .and .u32 (n : Int) 65535 = ((n % 65536 : Nat) : Int) := by
    rw [show n % 65536 = n &&& 65535 from (Nat.and_two_pow_sub_one_eq_mod n 16).symm]
    exact u32_and_nat n 65535 h (by omega)
  have e2 : (n : Int) / 65536 = ((n / 65536 : Nat) : Int) := by omega
  obtain ⟨p, hp⟩ : ∃ p, p = n % 65536 := ⟨_, rfl⟩
  obtain ⟨q, hq⟩ : ∃ q, q = n / 65536 := ⟨_, rfl⟩
  have p1 : (p : Int) < 65536 := by omega
  have q1 : (q : Int) < 65536 := by omega
  rw [← hp] at e1 ⊢
  rw [← hq] at e2 ⊢
  have hN : (n : Int) < 4294967296 := by omega
  clear hp hq h
  go_enter Tryd.func33, Tryd.ntmps33
  have HS := hide ((St.init w NoB).alloc (ivs [(p : Int), (q : Int), 0, 0, 0, 0, 0, 0, 0, 0, 0, 0, 0, 0, 0, 0]).toArray 34)
  go_wp2_with fail
  refine bodyPost_ret (results_cell_row rfl _ _ w.heap.size _ _ _ _ rfl (HS.out.heap 0 rfl) Tryd.underlying34 rfl (by kernel_rfl)) rfl ?_
  exact ⟨rfl, HS.out.below⟩
end Go.Proofs.YtgahjjdbpjgemaaDoor

/-
  The page's numbers as elements of the field: what its functions answer.
-/
namespace Go.Proofs.YtgahjjdbpjgemaaDoor
open Go.RowKit
set_option linter.unusedSimpArgs false

theorem pq_cast (n : Nat) : ((n % Pq : Nat) : Int) = (n : Int) % (Pq : Int) := Int.natCast_emod n Pq
theorem ne_add {xs ys : List Int} {X Y : FK} (h : NE xs X) (h2 : NE ys Y) : NE (carL (List.zipWith (· + ·) xs ys)) (X + Y) := by
  refine ⟨nb_addN h.1 h2.1, ?_⟩
  rw [carL_mod _ (by rw [List.length_zipWith, h.1.1, h2.1.1]; rfl), nv_zipAdd _ _ (by rw [h.1.1, h2.1.1]), fadd_val, pq_cast, Int.natCast_add, ← h.2, ← h2.2, ← Int.add_emod]
theorem ne_sub {xs ys : List Int} {X Y : FK} (h : NE xs X) (h2 : NE ys Y) : NE (carL (List.zipWith (· - ·) xs ys)) (X - Y) := by
  refine ⟨nb_subN h.1 h2.1, ?_⟩
  have hy := Y.isLt
  rw [carL_mod _ (by rw [List.length_zipWith, h.1.1, h2.1.1]; rfl), nv_zip _ _ (by rw [h.1.1, h2.1.1]), fsub_val, pq_cast, Int.natCast_add, Int.natCast_sub (by omega), ← h.2, ← h2.2]
  rw [show nv xs % (Pq : Int) + ((Pq : Int) - nv ys % (Pq : Int)) = nv xs % (Pq : Int) - nv ys % (Pq : Int) + (Pq : Int) from by omega, Int.add_emod_right, ← Int.sub_emod]
theorem ne_mul {xs ys : List Int} {X Y : FK} (h : NE xs X) (h2 : NE ys Y) : NE (muN xs ys) (X * Y) := by
  obtain ⟨h3, h4⟩ := muN_ok h.1 h2.1
  refine ⟨h3, ?_⟩
  rw [h4, fmul_val, pq_cast, Int.natCast_mul, ← h.2, ← h2.2, ← Int.mul_emod]
theorem ne_toNat {xs : List Int} {X : FK} (h : NE xs X) : (nv xs % (Pq : Int)).toNat = X.val := by rw [h.2]; rfl
def zerN : List Int := List.replicate 16 0
theorem ne_zero : NE zerN 0 := by
  refine ⟨⟨rfl, fun k x hx => ?_⟩, ?_⟩
  · have := (List.mem_replicate.1 (List.mem_of_getElem? hx)).2
    subst this
    split <;> omega
  · rw [fzero_val]
    show nv (List.replicate 16 0) % _ = _
    rw [show nv (List.replicate 16 0) = 0 from by decide]
    simp
def ResN (w : World) (X : FK) (e : Ending) (w' : World) : Prop := ∃ zs, NE zs X ∧ e = .returned (.agg (ivs zs).toArray) ∧ Below w.heap.size w w'
section
variable {xs ys : List Int} {X Y : FK}
theorem addC (w : World) (h : NE xs X) (h2 : NE ys Y) : Calls Tryd.prog 43 #[.agg (ivs xs).toArray, .agg (ivs ys).toArray] w (ResN w (X + Y)) :=
  (addN_any xs ys w h.1 h2.1).mono fun _ _ he => ⟨_, ne_add h h2, he.1, he.2⟩
theorem subC (w : World) (h : NE xs X) (h2 : NE ys Y) : Calls Tryd.prog 42 #[.agg (ivs xs).toArray, .agg (ivs ys).toArray] w (ResN w (X - Y)) :=
  (subN_any xs ys w h.1 h2.1).mono fun _ _ he => ⟨_, ne_sub h h2, he.1, he.2⟩
theorem mulC (w : World) (h : NE xs X) (h2 : NE ys Y) : Calls Tryd.prog 34 #[.agg (ivs xs).toArray, .agg (ivs ys).toArray] w (ResN w (X * Y)) :=
  (mulN_any xs ys w h.1 h2.1).mono fun _ _ he => ⟨_, ne_mul h h2, he.1, he.2⟩
theorem bytesC (w : World) (h : NE xs X) : Calls Tryd.prog 40 #[.agg (ivs xs).toArray] w fun e w' => ∃ B d, e = .returned (.slice B 32 d) ∧ Below w.heap.size w w' ∧ w'.ownsRow w.heap.size 5 1 (.slice B 32 d) 32 (bvs (leB 32 X.val)) := by
  rw [← ne_toNat h]
  exact bytesN_any xs w h.1
end
theorem leB_injP {x y : Nat} (hx : x < Pq) (hy : y < Pq) (h : leB 32 x = leB 32 y) : x = y := by
  have hp := Pq_256.1
  have h1 := bval_leB 32 x
  have h2 := bval_leB 32 y
  rw [Nat.mod_eq_of_lt (by omega)] at h1 h2
  rw [← h1, ← h2, h]
theorem leB_beq (X Y : FK) : (leB 32 X.val == leB 32 Y.val) = decide (X.val = Y.val) := by
  by_cases h : X.val = Y.val
  · rw [h]; simp
  · rw [decide_eq_false h, beq_eq_false_iff_ne]
    exact fun e => h (leB_injP X.isLt Y.isLt e)
theorem enBytesN (args : Array Value) (w : World) : (callFunc 40 args).run Tryd.prog w = .ok (.enter 40 args) w := by kernel_rfl
set_option maxRecDepth 100000 in
set_option maxHeartbeats 1600000 in
theorem sameC {xs ys : List Int} {X Y : FK} (w : World) (h : NE xs X) (h2 : NE ys Y) :
    Calls Tryd.prog 47 #[.agg (ivs xs).toArray, .agg (ivs ys).toArray] w fun e w' => e = .returned (.bool (decide (X.val = Y.val))) ∧ Below w.heap.size w w' := by
  have HB1 := hide (fun W => bytesC W h)
  have HB2 := hide (fun W => bytesC W h2)
  obtain ⟨xa, hxa⟩ : ∃ a, a = (ivs xs).toArray := ⟨_, rfl⟩
  have hsz : xa.size = 16 := by rw [hxa, List.size_toArray, ivs_len]; exact h.1.1
  obtain ⟨ya, hya⟩ : ∃ a, a = (ivs ys).toArray := ⟨_, rfl⟩
  have hsy : ya.size = 16 := by rw [hya, List.size_toArray, ivs_len]; exact h2.1.1
  rw [← hxa] at HB1 ⊢
  rw [← hya] at HB2 ⊢
  have HS := hide ((((St.init w NoB).alloc xa 34).alloc ya 34).drew)
  rw [size_alloc1] at HS
  have hbq := leB_beq X Y
  clear hxa hya h h2
  go_enter Tryd.func47, Tryd.ntmps47
  go_upto_region 1 with fail
  refine wp_region_T [(0, 0), (3, 0), (1, 2), (2, 0), (4, 2), (5, 0), (6, 1), (7, 1)] (by kernel_rfl) (by kernel_rfl) (fun _ _ _ _ h => h) ?_
  generalize ((w.alloc (.cells xa 34)).alloc (.cells ya 34)).drew = wd at HS ⊢
  go_wp2_with (first
      | (refine wpT_loadRow rfl rfl rfl HS.out 1 rfl rfl Tryd.underlying34 rfl (by rw [hsz]; kernel_rfl) ?_; (try simp only [Act.put, nq1, nq2, nq3, nq4, nq5, nq6]))
      | (refine wpT_loadRow rfl rfl rfl HS.out 0 rfl rfl Tryd.underlying34 rfl (by rw [hsy]; kernel_rfl) ?_; (try simp only [Act.put, nq1, nq2, nq3, nq4, nq5, nq6]))
      | (refine wpT_nil ?_)   | ((with_reducible refine fromT_refl ?_); (try simp only [Act.put, nq1, nq2, nq3, nq4, nq5, nq6]))   | ((with_reducible refine fromT_mk (by assumption) ?_); (try simp only [Act.put, nq1, nq2, nq3, nq4, nq5, nq6]))   | (refine wpT_pure (v := ?_) rfl rfl ?_ ?_; rotate_left; (intro wx; go_simp; try go_bits) <;> (with_reducible rfl); (try simp only [Act.put, nq1, nq2, nq3, nq4, nq5, nq6]))   | (refine wpT_load (v := ?_) rfl rfl rfl ?_ ?_; rotate_left; (go_simp; try go_bits) <;> (with_reducible rfl); (try simp only [Act.put, nq1, nq2, nq3, nq4, nq5, nq6]))   | (refine wpT_read (v := ?_) rfl rfl ?_ ?_; rotate_left; (intro wx hx; go_simp; try go_bits) <;> (with_reducible rfl); (try simp only [Act.put, nq1, nq2, nq3, nq4, nq5, nq6]))   | (refine wpT_call rfl rfl ?_; intro K hK)   | (refine wpT_late rfl rfl ?_; intro K hK)   | (refine wpT_any rfl rfl ?_; intro K hK)   | (refine wpT_skip rfl rfl ?_; (try simp only [Act.put, nq1, nq2, nq3, nq4, nq5, nq6]))
      | (go_at_call 40; (with_reducible refine (HB1.out _).mono ?_); rintro e w1 ⟨B1, d1, rfl, hb1, ho1⟩; have HS1 := hide (HS.out.row hb1 ho1); have cv1 : ∀ x, From w1 x → (convert 22 9 (.slice B1 32 d1)).run Tryd.prog x = .ok (.string (strOf (leB 32 X.val))) x := fun x hx => run_str Tryd.underlying22 Tryd.underlying5 Tryd.underlying9 ((HS1.out.rd 0 rfl).below hx); clear ho1)
      | (go_at_call 40; (with_reducible refine (HB2.out _).mono ?_); rintro e w2 ⟨B2, d2, rfl, hb2, ho2⟩; have HS2 := hide (HS1.out.row hb2 ho2); have cv2 : ∀ x, From w2 x → (convert 22 9 (.slice B2 32 d2)).run Tryd.prog x = .ok (.string (strOf (leB 32 Y.val))) x := fun x hx => run_str Tryd.underlying22 Tryd.underlying5 Tryd.underlying9 ((HS2.out.rd 0 rfl).below hx); clear ho2))
  go_ret
  exact ⟨rfl, HS2.out.below⟩
end Go.Proofs.YtgahjjdbpjgemaaDoor

/-
  The page's Odd, power, Inv; the law's same.
-/
namespace Go.Proofs.YtgahjjdbpjgemaaDoor
open Go.RowKit
set_option linter.unusedSimpArgs false

theorem and_one8 (n : Nat) (h : n < 256) : bits .and .u8 (n : Int) 1 = ((n % 2 : Nat) : Int) := by
  rw [show n % 2 = n &&& 1 from (Nat.and_two_pow_sub_one_eq_mod n 1).symm]
  exact u8_and_nat n 1 h (by omega)
set_option maxRecDepth 100000 in
set_option maxHeartbeats 1600000 in
theorem oddC {xs : List Int} {X : FK} (w : World) (h : NE xs X) :
    Calls Tryd.prog 41 #[.agg (ivs xs).toArray] w fun e w' => e = .returned (.bool (decide (X.val % 2 = 1))) ∧ Below w.heap.size w w' := by
  have HB1 := hide (fun W => bytesC W h)
  obtain ⟨xa, hxa⟩ : ∃ a, a = (ivs xs).toArray := ⟨_, rfl⟩
  have hsz : xa.size = 16 := by rw [hxa, List.size_toArray, ivs_len]; exact h.1.1
  rw [← hxa] at HB1 ⊢
  have HS := hide ((St.init w NoB).alloc xa 34)
  clear hxa h
  go_enter Tryd.func41, Tryd.ntmps41
  go_upto_region 1 with fail
  refine wp_region_list ?_
  refine wpList_load_row rfl 34 (.tmp 1) rfl w.heap.size rfl 34 xa _ _ (HS.out.heap 0 rfl) Tryd.underlying34 rfl (by rw [hsz]; kernel_rfl) ?_
  refine wl_callN rfl rfl enBytesN rfl (HB1.out _) ?_
  rintro e w1 ⟨B1, d1, rfl, hb1, ho1⟩
  refine ⟨_, rfl, ?_⟩
  have HS1 := hide (HS.out.call hb1)
  obtain ⟨b, o, rfl, hc⟩ := rd_at' (rd_own ho1) (bvs_get (l := leB 32 X.val) (j := 0) (c := UInt8.ofNat (X.val % 256)) rfl)
  obtain ⟨p, hp⟩ : ∃ p, p = X.val % 256 := ⟨_, rfl⟩
  have p256 : p < 256 := by omega
  rw [UInt8.toNat_ofNat', ← hp, Nat.mod_eq_of_lt (by omega : p < 2 ^ 8), Nat.add_zero] at hc
  have e1 := and_one8 p p256
  have e2 : (((p % 2 : Nat) : Int) == 1) = decide (X.val % 2 = 1) := by
    rw [Bool.eq_iff_iff, beq_iff_eq, decide_eq_true_iff]
    omega
  have e3 : decide (((p % 2 : Nat) : Int) = 1) = decide (X.val % 2 = 1) := by
    rw [decide_eq_decide]
    omega
  obtain ⟨r, hr⟩ : ∃ r, r = p % 2 := ⟨_, rfl⟩
  obtain ⟨bb, hbb⟩ : ∃ b, b = decide (X.val % 2 = 1) := ⟨_, rfl⟩
  rw [← hr] at e1 e2 e3
  rw [← hbb] at e2 e3
  have HBB := hide hbb
  clear hr hbb hp ho1
  go_wp2_with fail
  go_ret
  exact ⟨by rw [← HBB.out]; rfl, HS1.out.below⟩
/-! Powers. -/
def fpw (X : FK) (e : Nat) : FK := ⟨X.val ^ e % Pq, Nat.mod_lt _ pq_pos⟩
theorem fpw_val (X : FK) (e : Nat) : (fpw X e).val = X.val ^ e % Pq := rfl
theorem fpw_mul (X : FK) (e f : Nat) : fpw X e * fpw X f = fpw X (e + f) := Fin.ext (by rw [fmul_val, fpw_val, fpw_val, fpw_val, Nat.pow_add, ← Nat.mul_mod])
theorem fpw_one (X : FK) : fpw X 1 = X := Fin.ext (by rw [fpw_val, Nat.pow_one]; exact Nat.mod_eq_of_lt X.isLt)
theorem fpw_zero (X : FK) : (fpw X 0).val = 1 := by rw [fpw_val, Nat.pow_zero]; exact Nat.mod_eq_of_lt (by have := Pq_256.2; omega)
/-- The exponent of the bits from number k on. -/
def bitE (bs : List Bool) : Nat → Nat
  | 0 => 0
  | j + 1 => 2 * bitE bs j + (if bs.getD (254 - j) false then 1 else 0)
def blv (bs : List Bool) : List Value := bs.map Value.bool
theorem blv_len (bs : List Bool) : (blv bs).length = bs.length := by simp [blv]
theorem blv_get {bs : List Bool} {k : Nat} {x : Bool} (h : bs[k]? = some x) : (blv bs).toArray[k]? = some (.bool x) := by simp [blv, h]
def PwRel (w : World) (X : FK) (xs : List Int) (bs : List Bool) (g : Nat) (iv : Value) (wr : World) : Prop :=
  ∃ (j : Nat) (zs : List Int), j ≤ 255 ∧ iv = .int .i64 (254 - (j : Int)) ∧ NE zs (fpw X (bitE bs j)) ∧ St w NoB wr [.cells g (ivs zs).toArray 34, .cells (w.heap.size + 2) (ivs (List.replicate 16 0)).toArray 34, .cells (w.heap.size + 1) (blv bs).toArray 96, .cells w.heap.size (ivs xs).toArray 34]
theorem enMulN (args : Array Value) (w : World) : (callFunc 34 args).run Tryd.prog w = .ok (.enter 34 args) w := by kernel_rfl
theorem enSmallN (args : Array Value) (w : World) : (callFunc 33 args).run Tryd.prog w = .ok (.enter 33 args) w := by kernel_rfl
theorem ivs_size {zs : List Int} {X : FK} (h : NE zs X) : (ivs zs).toArray.size = 16 := by rw [List.size_toArray, ivs_len]; exact h.1.1
set_option maxRecDepth 100000 in
set_option maxHeartbeats 1600000 in
theorem powerN_any (xs : List Int) (X : FK) (bs : List Bool) (w : World) (h : NE xs X) (hb : bs.length = 255) :
    Calls Tryd.prog 66 #[.agg (ivs xs).toArray, .agg (blv bs).toArray] w (ResN w (fpw X (bitE bs 255))) := by
  have HN := hide h
  have HL := hide hb
  have hS0 := (((St.init w NoB).alloc (ivs xs).toArray 34).alloc (blv bs).toArray 96).alloc (ivs (List.replicate 16 0)).toArray 34
  rw [size_alloc1, size_alloc1] at hS0
  have HS0 := hide hS0
  clear hS0
  have HSM := hide (fun W => smallN_any 1 W (by omega))
  clear h hb
  go_enter Tryd.func66, Tryd.ntmps66
  go_upto_region 1 with fail
  refine wp_region_list ?_
  refine wl_callN rfl rfl enSmallN rfl (HSM.out _) ?_
  rintro e w1 ⟨rfl, hb1⟩
  refine ⟨_, rfl, ?_⟩
  have HS1 := hide (HS0.out.call hb1)
  have hne1 : NE [((1 % 65536 : Nat) : Int), ((1 / 65536 : Nat) : Int), 0, 0, 0, 0, 0, 0, 0, 0, 0, 0, 0, 0, 0, 0] (fpw X 0) := by
    refine ⟨(ne_small 1 (by omega)).1, ?_⟩
    rw [(ne_small 1 (by omega)).2, fpw_zero]
    have := Pq_256.2
    exact Int.emod_eq_of_lt (by omega) (by omega)
  obtain ⟨z1, hz1⟩ : ∃ z, z = [((1 % 65536 : Nat) : Int), ((1 / 65536 : Nat) : Int), 0, 0, 0, 0, 0, 0, 0, 0, 0, 0, 0, 0, 0, 0] := ⟨_, rfl⟩
  rw [← hz1] at hne1 ⊢
  have HZ1 := hide hne1
  clear hne1 hz1
  refine wpList_plain rfl ?_
  intro K hK
  go_simp
  refine hK _ _ ?_
  clear hK K
  have HS2 := hide (show St w NoB _ _ from HS1.out.alloc #[.int .i64 0, .int .i64 0, .int .i64 0, .int .i64 0, .int .i64 0, .int .i64 0, .int .i64 0, .int .i64 0, .int .i64 0, .int .i64 0, .int .i64 0, .int .i64 0, .int .i64 0, .int .i64 0, .int .i64 0, .int .i64 0] 34)
  obtain ⟨g, hg⟩ : ∃ g, g = w1.heap.size := ⟨_, rfl⟩
  rw [← hg] at HS2
  have HS3 := hide (show St w NoB _ [.cells g (ivs z1).toArray 34, .cells (w.heap.size + 2) (ivs (List.replicate 16 0)).toArray 34, .cells (w.heap.size + 1) (blv bs).toArray 96, .cells w.heap.size (ivs xs).toArray 34] from HS2.out.setRow 0 rfl (ivs z1).toArray)
  refine wpList_store_row rfl 34 (.tmp 5) (.tmp 7) rfl g (ivs z1).toArray (by rw [hg]; rfl) rfl 34 _ (HS2.out.heap 0 rfl) (by rw [ivs_size HZ1.out]; kernel_rfl) (by rw [ivs_size HZ1.out]; rfl) (ivs_all _) ?_
  refine wpList_nil ?_
  have hgE : w1.heap.size = g := hg.symm
  simp only [hgE]
  generalize ((w1.alloc (.cells #[.int .i64 0, .int .i64 0, .int .i64 0, .int .i64 0, .int .i64 0, .int .i64 0, .int .i64 0, .int .i64 0, .int .i64 0, .int .i64 0, .int .i64 0, .int .i64 0, .int .i64 0, .int .i64 0, .int .i64 0, .int .i64 0] 34)).setRow g (ivs z1).toArray) = wq at HS3 ⊢
  have hlt0 := Nat.le_refl w1.heap.size
  clear hgE hg HS2 HS1
  go_wp2_with fail
  go_loopw [6] (fun i wr => PwRel w X xs bs g i wr) (fun i _ => (intOf i + 1).toNat)
  case atStart => exact ⟨0, z1, by omega, rfl, HZ1.out, HS3.out⟩
  case round =>
    clear HS3 HZ1
    obtain ⟨j, zs, hj, rfl, hz, hS⟩ := hrel
    have HZ := hide hz
    have HS := hide hS
    by_cases hlt : j < 255
    · have dj : decide ((0 : Int) ≤ 254 - (j : Int)) = true := by simp; omega
      have jj : (0 : Int) ≤ 254 - (j : Int) := by omega
      have HM := hide (fun W => mulC W hz hz)
      obtain ⟨bb, hbb⟩ : ∃ b, bs[254 - j]? = some b := ⟨bs[254 - j]'(by rw [HL.out]; omega), List.getElem?_eq_getElem _⟩
      have hE : bitE bs (j + 1) = 2 * bitE bs j + (if bb then 1 else 0) := by rw [bitE, List.getD_eq_getElem?_getD, hbb]; rfl
      rw [fpw_mul, ← Nat.two_mul] at HM
      have HE := hide hE
      clear hz hS hE
      go_upto_region 5 with fail
      refine wp_region_list ?_
      refine wpList_load_row rfl 34 (.tmp 5) rfl g rfl 34 (ivs zs).toArray _ _ (HS.out.heap 0 rfl) Tryd.underlying34 rfl (by rw [ivs_size HZ.out]; kernel_rfl) ?_
      refine wpList_load_row rfl 34 (.tmp 5) rfl g rfl 34 (ivs zs).toArray _ _ (HS.out.heap 0 rfl) Tryd.underlying34 rfl (by rw [ivs_size HZ.out]; kernel_rfl) ?_
      refine wl_callN rfl rfl enMulN rfl (HM.out _) ?_
      rintro e w2 ⟨ys, hy, rfl, hb2⟩
      refine ⟨_, rfl, ?_⟩
      have HY := hide hy
      have HS1 := hide (HS.out.call hb2)
      have HS2 := hide (show St w NoB (w2.setRow g (ivs ys).toArray) [.cells g (ivs ys).toArray 34, .cells (w.heap.size + 2) (ivs (List.replicate 16 0)).toArray 34, .cells (w.heap.size + 1) (blv bs).toArray 96, .cells w.heap.size (ivs xs).toArray 34] from HS1.out.setRow 0 rfl (ivs ys).toArray)
      refine wpList_store_row rfl 34 (.tmp 5) (.tmp 14) rfl g (ivs ys).toArray rfl rfl 34 _ (HS1.out.heap 0 rfl) (by rw [ivs_size HY.out]; kernel_rfl) (by rw [ivs_size HY.out, ivs_size HZ.out]) (ivs_all _) ?_
      refine wpList_nil ?_
      generalize w2.setRow g (ivs ys).toArray = w3 at HS2 ⊢
      have cb : w3.cell? ⟨w.heap.size + 1, 254 - j, none⟩ = some (.bool bb) := by rw [HS2.out.cell 2 rfl (254 - j)]; exact blv_get hbb
      obtain ⟨q, hq⟩ : ∃ q, q = 254 - j := ⟨_, rfl⟩
      rw [← hq] at cb
      have hqi : (254 : Int) - (j : Int) = (q : Int) := by omega
      have q255 : (q : Int) < 255 := by omega
      have HQ := hide hqi
      rw [hqi] at jj dj
      clear HS HS1 hb2 hy hbb hq
      simp only [hqi]
      clear hqi
      cases bb with
      | false =>
        have hE2 := HE.out
        rw [if_neg Bool.false_ne_true, Nat.add_zero] at hE2
        have HE2 := hide hE2
        clear hE2 HE
        go_wp2_with fail
        go_roundw
        case rel => exact ⟨j + 1, ys, by omega, by rw [← HQ.out]; go_num, HE2.out ▸ HY.out, HS2.out⟩
        case measure => (have := HQ.out); (simp [intOf]) <;> omega
      | true =>
        have hE2 := HE.out
        rw [if_pos rfl] at hE2
        have HM2 := hide (fun W => mulC W HY.out HN.out)
        have hx1 : fpw X (2 * bitE bs j) * X = fpw X (bitE bs (j + 1)) := by rw [hE2, ← fpw_mul, fpw_one]
        rw [hx1] at HM2
        clear hE2 HE hx1
        go_upto_region 7 with fail
        refine wp_region_list ?_
        refine wpList_load_row rfl 34 (.tmp 5) rfl g rfl 34 (ivs ys).toArray _ _ (HS2.out.heap 0 rfl) Tryd.underlying34 rfl (by rw [ivs_size HY.out]; kernel_rfl) ?_
        refine wpList_load_row rfl 34 (.tmp 2) rfl w.heap.size rfl 34 (ivs xs).toArray _ _ (HS2.out.heap 3 rfl) Tryd.underlying34 rfl (by rw [ivs_size HN.out]; kernel_rfl) ?_
        refine wl_callN rfl rfl enMulN rfl (HM2.out _) ?_
        rintro e w4 ⟨us, hu, rfl, hb4⟩
        refine ⟨_, rfl, ?_⟩
        have HU := hide hu
        have HS3 := hide (HS2.out.call hb4)
        have HS4 := hide (show St w NoB (w4.setRow g (ivs us).toArray) [.cells g (ivs us).toArray 34, .cells (w.heap.size + 2) (ivs (List.replicate 16 0)).toArray 34, .cells (w.heap.size + 1) (blv bs).toArray 96, .cells w.heap.size (ivs xs).toArray 34] from HS3.out.setRow 0 rfl (ivs us).toArray)
        refine wpList_store_row rfl 34 (.tmp 5) (.tmp 20) rfl g (ivs us).toArray rfl rfl 34 _ (HS3.out.heap 0 rfl) (by rw [ivs_size HU.out]; kernel_rfl) (by rw [ivs_size HU.out, ivs_size HY.out]) (ivs_all _) ?_
        refine wpList_nil ?_
        generalize w4.setRow g (ivs us).toArray = w5 at HS4 ⊢
        clear HS2 HS3 hb4 hu cb
        go_wp2_with fail
        go_roundw
        case rel => exact ⟨j + 1, us, by omega, by rw [← HQ.out]; go_num, HU.out, HS4.out⟩
        case measure => (have := HQ.out); (simp [intOf]) <;> omega
    · obtain rfl : j = 255 := by omega
      clear hz hS
      go_upto_region 8 with fail
      refine wp_region_list ?_
      refine wpList_load_row rfl 34 (.tmp 5) rfl g rfl 34 (ivs zs).toArray _ _ (HS.out.heap 0 rfl) Tryd.underlying34 rfl (by rw [ivs_size HZ.out]; kernel_rfl) ?_
      have HS3 := hide (HS.out.setRow 1 rfl (ivs zs).toArray)
      refine wpList_store_row rfl 34 (.tmp 4) (.tmp 21) rfl (w.heap.size + 2) (ivs zs).toArray rfl rfl 34 _ (HS.out.heap 1 rfl) (by rw [ivs_size HZ.out]; kernel_rfl) (by rw [ivs_size HZ.out]; rfl) (ivs_all _) ?_
      refine wpList_nil ?_
      go_wp2_with fail
      refine bodyPost_ret (results_cell_row rfl _ _ (w.heap.size + 2) _ _ _ _ rfl (HS3.out.heap 1 rfl) Tryd.underlying34 rfl (by rw [ivs_size HZ.out]; kernel_rfl)) rfl ?_
      exact ⟨zs, HZ.out, rfl, HS3.out.below⟩
/-! The inverse. -/
def invB (i : Nat) : List Bool := (List.range 255).map (fun j => decide (j < i ∧ j ≠ 2 ∧ j ≠ 4))
theorem invB_len (i : Nat) : (invB i).length = 255 := by simp [invB]
theorem invB_get (i k : Nat) (h : k < 255) : (invB i)[k]? = some (decide (k < i ∧ k ≠ 2 ∧ k ≠ 4)) := by
  unfold invB
  rw [List.getElem?_map, List.getElem?_range h]
  rfl
theorem invB_set (i : Nat) (h : i < 255) : (invB i).set i (decide (i ≠ 2 ∧ i ≠ 4)) = invB (i + 1) := by
  apply List.ext_getElem?
  intro k
  rcases Nat.lt_or_ge k 255 with hk | hk
  · rw [invB_get _ _ hk, List.getElem?_set]
    split
    · rename_i e
      subst e
      rw [if_pos (by rw [invB_len]; exact hk)]
      congr 1
      rw [decide_eq_decide]
      omega
    · rw [invB_get _ _ hk]
      congr 1
      rw [decide_eq_decide]
      omega
  · rw [List.getElem?_eq_none (by rw [List.length_set, invB_len]; exact hk), List.getElem?_eq_none (by rw [invB_len]; exact hk)]
theorem invBE : bitE (invB 255) 255 = Pq - 2 := by unfold Pq; decide +kernel
theorem fpw_inv (X : FK) : fpw X (Pq - 2) = finv X := Fin.ext (by rw [fpw_val, finv_val])
theorem blv_set (bs : List Bool) (k : Nat) (b : Bool) : (blv bs).toArray.setIfInBounds k (.bool b) = (blv (bs.set k b)).toArray := by simp [blv, List.map_set]
def IvRel (w : World) (xs : List Int) (iv : Value) (wr : World) : Prop :=
  ∃ i : Nat, i ≤ 255 ∧ iv = .int .i64 (i : Int) ∧ St w NoB wr [.cells (w.heap.size + 2) (blv (invB i)).toArray 96, .cells (w.heap.size + 1) (ivs (List.replicate 16 0)).toArray 34, .cells w.heap.size (ivs xs).toArray 34]
theorem zero255 (W : World) : (zeroValue 96).run Tryd.prog W = .ok (.agg (blv (invB 0)).toArray) W := by kernel_rfl
theorem enPowerN (args : Array Value) (w : World) : (callFunc 66 args).run Tryd.prog w = .ok (.enter 66 args) w := by kernel_rfl
set_option maxRecDepth 100000 in
set_option maxHeartbeats 1600000 in
theorem invN_any (xs : List Int) (X : FK) (w : World) (h : NE xs X) :
    Calls Tryd.prog 39 #[.agg (ivs xs).toArray] w (ResN w (finv X)) := by
  have HN := hide h
  have HP := hide (fun W => powerN_any xs X (invB 255) W h (invB_len 255))
  rw [invBE, fpw_inv] at HP
  have hS0 := (((St.init w NoB).alloc (ivs xs).toArray 34).alloc (ivs (List.replicate 16 0)).toArray 34).alloc (blv (invB 0)).toArray 96
  rw [size_alloc1, size_alloc1] at hS0
  have HS0 := hide hS0
  have hz := zero255
  clear hS0 h
  go_enter Tryd.func39, Tryd.ntmps39
  go_wp2_with fail
  go_loopw [5] (fun i wr => IvRel w xs i wr) (fun i _ => 255 - (intOf i).toNat)
  case atStart => exact ⟨0, by omega, rfl, HS0.out⟩
  case round =>
    clear HS0 hz
    obtain ⟨i, hi, rfl, hS⟩ := hrel
    have HS := hide hS
    by_cases hlt : i < 255
    · have d255 : decide ((i : Int) < 255) = true := by simp; omega
      have i255 : (i : Int) < 255 := by omega
      have c0 : wr.cell? ⟨w.heap.size + 2, i, none⟩ = some (.bool (decide (i < i ∧ i ≠ 2 ∧ i ≠ 4))) := by rw [hS.cell 0 rfl i]; exact blv_get (invB_get i i hlt)
      have f0 := hS.free 0 rfl i
      have HT := hide (invB_set i hlt)
      clear hS
      by_cases h2 : i = 2
      · subst h2
        go_wp2_with fail
        go_roundw
        case rel =>
          have h3 := HS.out.setCell 0 rfl 2 (.bool false)
          rw [List.set_cons_zero, blv_set] at h3
          exact ⟨3, by omega, rfl, by have := HT.out; rw [show decide ((2 : Nat) ≠ 2 ∧ (2 : Nat) ≠ 4) = false from by decide] at this; rw [← this]; exact h3⟩
        case measure => (simp [intOf]) <;> omega
      · by_cases h4 : i = 4
        · subst h4
          go_wp2_with fail
          go_roundw
          case rel =>
            have h3 := HS.out.setCell 0 rfl 4 (.bool false)
            rw [List.set_cons_zero, blv_set] at h3
            exact ⟨5, by omega, rfl, by have := HT.out; rw [show decide ((4 : Nat) ≠ 2 ∧ (4 : Nat) ≠ 4) = false from by decide] at this; rw [← this]; exact h3⟩
          case measure => (simp [intOf]) <;> omega
        · have n2 : ¬ (i : Int) = 2 := by omega
          have n4 : ¬ (i : Int) = 4 := by omega
          have e2 : ((i : Int) != 2) = true := by simp; omega
          have e4 : ((i : Int) != 4) = true := by simp; omega
          have e2' : decide ((i : Int) = 2) = false := by simp; omega
          have e4' : decide ((i : Int) = 4) = false := by simp; omega
          have HT2 := hide (show (invB i).set i true = invB (i + 1) by have := HT.out; rw [show decide (i ≠ 2 ∧ i ≠ 4) = true from by simp; omega] at this; exact this)
          clear h2 h4 HT
          go_wp2_with fail
          go_roundw
          case rel =>
            have h3 := HS.out.setCell 0 rfl i (.bool true)
            rw [List.set_cons_zero, blv_set, HT2.out] at h3
            exact ⟨i + 1, by omega, by go_num, h3⟩
          case measure => (simp [intOf]) <;> omega
    · obtain rfl : i = 255 := by omega
      have hszB : (blv (invB 255)).toArray.size = 255 := by rw [List.size_toArray, blv_len, invB_len]
      clear hS
      go_upto_region 7 with fail
      refine wp_region_list ?_
      refine wpList_load_row rfl 34 (.tmp 1) rfl w.heap.size rfl 34 (ivs xs).toArray _ _ (HS.out.heap 2 rfl) Tryd.underlying34 rfl (by rw [ivs_size HN.out]; kernel_rfl) ?_
      refine wpList_load_row rfl 96 (.tmp 3) rfl (w.heap.size + 2) rfl 96 (blv (invB 255)).toArray _ _ (HS.out.heap 0 rfl) Tryd.underlying96 rfl (by rw [hszB]; kernel_rfl) ?_
      refine wl_callN rfl rfl enPowerN rfl (HP.out _) ?_
      rintro e w2 ⟨ys, hy, rfl, hb2⟩
      refine ⟨_, rfl, ?_⟩
      have HY := hide hy
      have HS1 := hide (HS.out.call hb2)
      have HS3 := hide (HS1.out.setRow 1 rfl (ivs ys).toArray)
      clear HS hy
      refine wpList_store_row rfl 34 (.tmp 2) (.tmp 19) rfl (w.heap.size + 1) (ivs ys).toArray rfl rfl 34 _ (HS1.out.heap 1 rfl) (by rw [ivs_size HY.out]; kernel_rfl) (by rw [ivs_size HY.out]; rfl) (ivs_all _) ?_
      refine wpList_nil ?_
      go_wp2_with fail
      refine bodyPost_ret (results_cell_row rfl _ _ (w.heap.size + 1) _ _ _ _ rfl (HS3.out.heap 1 rfl) Tryd.underlying34 rfl (by rw [ivs_size HY.out]; kernel_rfl)) rfl ?_
      exact ⟨ys, HY.out, rfl, HS3.out.below⟩
end Go.Proofs.YtgahjjdbpjgemaaDoor

/-
  Elements and the page's numbers as arrays that nobody looks into: what their functions answer.
-/
namespace Go.Proofs.YtgahjjdbpjgemaaDoor
open Go.RowKit
set_option linter.unusedSimpArgs false

/-- An element that stands for X. -/
structure EA (a : Array Value) (X : FK) : Prop where
  ex : ∃ p q s t u : Nat, a = #[.int .u64 (p : Int), .int .u64 (q : Int), .int .u64 (s : Int), .int .u64 (t : Int), .int .u64 (u : Int)] ∧ ev [p, q, s, t, u] = X.val ∧ Red [p, q, s, t, u]
theorem EA.arr {a : Array Value} {X : FK} (h : EA a X) : Arr 5 a := by
  obtain ⟨p, q, s, t, u, rfl, _, _⟩ := h.ex
  exact ⟨rfl, by simp [Value.oneCell']⟩
/-- A number of the page's that stands for X. -/
structure NA (a : Array Value) (X : FK) : Prop where
  ex : ∃ xs, a = (ivs xs).toArray ∧ NE xs X
theorem NA.arr {a : Array Value} {X : FK} (h : NA a X) : Arr 16 a := by
  obtain ⟨xs, rfl, hx⟩ := h.ex
  exact ⟨ivs_size hx, by rw [List.all_toArray, List.all_eq_true]; intro v hv; unfold ivs at hv; obtain ⟨n, _, rfl⟩ := List.mem_map.1 hv; rfl⟩
def ResE (w : World) (X : FK) (e : Ending) (w' : World) : Prop := ∃ z, EA z X ∧ e = .returned (.agg z) ∧ Below w.heap.size w w'
def ResA (w : World) (X : FK) (e : Ending) (w' : World) : Prop := ∃ z, NA z X ∧ e = .returned (.agg z) ∧ Below w.heap.size w w'
theorem ResN.ra {w : World} {X : FK} {e : Ending} {w' : World} (h : ResN w X e w') : ResA w X e w' := by
  obtain ⟨zs, h1, h2, h3⟩ := h
  exact ⟨_, ⟨zs, rfl, h1⟩, h2, h3⟩
theorem res_of {w : World} {X : FK} {e : Ending} {w' : World} (h : ∃ p q s t u : Nat, ev [p, q, s, t, u] = X.val ∧ Red [p, q, s, t, u] ∧ e = .returned (.agg #[.int .u64 (p : Int), .int .u64 (q : Int), .int .u64 (s : Int), .int .u64 (t : Int), .int .u64 (u : Int)]) ∧ Below w.heap.size w w') : ResE w X e w' := by
  obtain ⟨p, q, s, t, u, h1, h2, h3, h4⟩ := h
  exact ⟨_, ⟨p, q, s, t, u, rfl, h1, h2⟩, h3, h4⟩
section
variable {a b : Array Value} {X Y : FK} (w : World)
theorem addA (ha : EA a X) (hb : EA b Y) : Calls Tryd.prog 53 #[.agg a, .agg b] w (ResE w (X + Y)) := by
  obtain ⟨_, _, _, _, _, rfl, h1, h2⟩ := ha.ex
  obtain ⟨_, _, _, _, _, rfl, h3, h4⟩ := hb.ex
  exact (addE h1 h2 h3 h4).mono fun _ _ h => res_of h
theorem subA (ha : EA a X) (hb : EA b Y) : Calls Tryd.prog 52 #[.agg a, .agg b] w (ResE w (X - Y)) := by
  obtain ⟨_, _, _, _, _, rfl, h1, h2⟩ := ha.ex
  obtain ⟨_, _, _, _, _, rfl, h3, h4⟩ := hb.ex
  exact (subE h1 h2 h3 h4).mono fun _ _ h => res_of h
theorem mulA (ha : EA a X) (hb : EA b Y) : Calls Tryd.prog 36 #[.agg a, .agg b] w (ResE w (X * Y)) := by
  obtain ⟨_, _, _, _, _, rfl, h1, h2⟩ := ha.ex
  obtain ⟨_, _, _, _, _, rfl, h3, h4⟩ := hb.ex
  exact (mulE h1 h2 h3 h4).mono fun _ _ h => res_of h
theorem negA (ha : EA a X) : Calls Tryd.prog 45 #[.agg a] w (ResE w (-X)) := by
  obtain ⟨_, _, _, _, _, rfl, h1, h2⟩ := ha.ex
  exact (negE h1 h2).mono fun _ _ h => res_of h
theorem invA (ha : EA a X) : Calls Tryd.prog 35 #[.agg a] w (ResE w (finv X)) := by
  obtain ⟨_, _, _, _, _, rfl, h1, h2⟩ := ha.ex
  exact (invE h1 h2).mono fun _ _ h => res_of h
theorem sameA (ha : EA a X) (hb : EA b Y) : Calls Tryd.prog 68 #[.agg a, .agg b] w fun e w' => e = .returned (.bool (decide (X = Y))) ∧ Below w.heap.size w w' := by
  obtain ⟨_, _, _, _, _, rfl, h1, h2⟩ := ha.ex
  obtain ⟨_, _, _, _, _, rfl, h3, h4⟩ := hb.ex
  have e : decide (X = Y) = decide (X.val = Y.val) := by
    by_cases h : X = Y
    · rw [decide_eq_true h, decide_eq_true (congrArg _ h)]
    · rw [decide_eq_false h, decide_eq_false fun e => h (Fin.ext e)]
  rw [e]
  exact sameE h1 h2 h3 h4
theorem zeroA (ha : EA a X) : Calls Tryd.prog 59 #[.agg a] w fun e w' => e = .returned (.bool (decide (X = 0))) ∧ Below w.heap.size w w' := by
  obtain ⟨_, _, _, _, _, rfl, h1, h2⟩ := ha.ex
  have e : decide (X = 0) = decide (X.val = 0) := by
    by_cases h : X = 0
    · rw [decide_eq_true h, decide_eq_true (by rw [h, fzero_val])]
    · rw [decide_eq_false h, decide_eq_false fun e => h (Fin.ext (e.trans fzero_val.symm))]
  rw [e]
  exact zeroE h1 h2
theorem oddA (ha : EA a X) : Calls Tryd.prog 38 #[.agg a] w fun e w' => e = .returned (.bool (decide (X.val % 2 = 1))) ∧ Below w.heap.size w w' := by
  obtain ⟨_, _, _, _, _, rfl, h1, h2⟩ := ha.ex
  exact oddE h1 h2
theorem bytesA (ha : EA a X) : Calls Tryd.prog 37 #[.agg a] w (ResB 5 w (leB 32 X.val)) := by
  obtain ⟨_, _, _, _, _, rfl, h1, h2⟩ := ha.ex
  rw [← h1]
  exact bytes_walk _ _ _ _ _ w (red_low h2)
theorem small1A : Calls Tryd.prog 48 #[.int .u32 1] w (ResE w 1) := (small1 w).mono fun _ _ h => res_of h
theorem small_is (n : Nat) (m : Int) (hm : (n : Int) = m) (w : World) (h : n < 4294967296) : Calls Tryd.prog 48 #[.int .u32 m] w fun r w' => ∃ p q s t u : Nat, ev [p, q, s, t, u] = n ∧ Red [p, q, s, t, u] ∧ r = .returned (.agg #[.int .u64 (p : Int), .int .u64 (q : Int), .int .u64 (s : Int), .int .u64 (t : Int), .int .u64 (u : Int)]) ∧ Below w.heap.size w w' := by
  subst hm
  exact smallE n w h
theorem toF_two : (toF 2).val = 2 := Nat.mod_eq_of_lt (by have := Pq_256.2; omega)
theorem small2A : Calls Tryd.prog 48 #[.int .u32 2] w (ResE w (toF 2)) := by
  have h := small_is 2 2 rfl w (by decide)
  exact h.mono fun e w' ⟨p, q, s, t, u, h1, h2, h3, h4⟩ => res_of ⟨p, q, s, t, u, h1.trans toF_two.symm, h2, h3, h4⟩
theorem fromA {A : Option Addr} {n c : Nat} {l : List UInt8} (hl : l.length = n) (hn : n ≤ 1000) (hr : Rd w (.slice A n c) 1 n (bvs l)) : Calls Tryd.prog 50 #[.slice A n c] w (ResE w (fbytes l)) :=
  (fromE hl hn hr).mono fun _ _ h => res_of h
theorem pow_of {z : Nat} {n : Nat} (h : z = X.val ^ n % Pq) : z = (fpow X n).val := h
theorem pexp1 : pexp 252 2 252 = 2 ^ 252 - 3 := by decide +kernel
theorem pexp2 : pexp 253 4 253 = 2 ^ 253 - 5 := by decide +kernel
theorem powA1 (ha : EA a X) : Calls Tryd.prog 61 #[.agg a, .int .i64 252, .int .u64 2] w (ResE w (fpow X (2 ^ 252 - 3))) := by
  obtain ⟨_, _, _, _, _, rfl, h1, h2⟩ := ha.ex
  have h := power_walk _ _ _ _ _ 252 2 w h2 (by decide) (by decide) (by decide)
  simp only [pexp1, h1, ← fpow_val] at h
  exact h.mono fun _ _ h => res_of h
theorem powA2 (ha : EA a X) : Calls Tryd.prog 61 #[.agg a, .int .i64 253, .int .u64 4] w (ResE w (fpow X (2 ^ 253 - 5))) := by
  obtain ⟨_, _, _, _, _, rfl, h1, h2⟩ := ha.ex
  have h := power_walk _ _ _ _ _ 253 4 w h2 (by decide) (by decide) (by decide)
  simp only [pexp2, h1, ← fpow_val] at h
  exact h.mono fun _ _ h => res_of h
/-- The root of -1, by a power of two. -/
theorem two_root : fpow (toF 2) (2 ^ 253 - 5) = iF := Fin.ext (by
  refine fpow_pm (toF 2) _ 256 _ (by decide) ?_
  rw [toF_two]
  show _ = iN
  unfold Pq iN
  decide +kernel)
theorem ea_zero : EA #[.int .u64 0, .int .u64 0, .int .u64 0, .int .u64 0, .int .u64 0] 0 := ⟨0, 0, 0, 0, 0, rfl, by rw [fzero_val]; unfold ev fv fv fv fv fv fv; simp, ⟨rfl, fun k x hx => by
  have hx0 : x = 0 := by
    have := List.mem_of_getElem? hx
    simpa using this
  subst hx0
  unfold T51
  omega⟩⟩
def lD : List Nat := [163, 120, 89, 19, 202, 77, 235, 117, 171, 216, 65, 65, 77, 10, 112, 0, 152, 232, 121, 119, 121, 64, 199, 140, 115, 254, 111, 43, 238, 108, 3, 82]
theorem nD_text : strOf (hexT lD) = ⟨#[53, 50, 48, 51, 54, 99, 101, 101, 50, 98, 54, 102, 102, 101, 55, 51, 56, 99, 99, 55, 52, 48, 55, 57, 55, 55, 55, 57, 101, 56, 57, 56, 48, 48, 55, 48, 48, 97, 52, 100, 52, 49, 52, 49, 100, 56, 97, 98, 55, 53, 101, 98, 52, 100, 99, 97, 49, 51, 53, 57, 55, 56, 97, 51]⟩ := by rw [strOf_eq]; rfl
theorem nD_val : fbytes (byL lD) = dF := Fin.ext (by decide +kernel)
theorem numD : Calls Tryd.prog 29 #[.string ⟨#[53, 50, 48, 51, 54, 99, 101, 101, 50, 98, 54, 102, 102, 101, 55, 51, 56, 99, 99, 55, 52, 48, 55, 57, 55, 55, 55, 57, 101, 56, 57, 56, 48, 48, 55, 48, 48, 97, 52, 100, 52, 49, 52, 49, 100, 56, 97, 98, 55, 53, 101, 98, 52, 100, 99, 97, 49, 51, 53, 57, 55, 56, 97, 51]⟩] w (ResE w (dF)) := by
  have h := number_any lD (by decide) (by decide) w
  rw [nD_text, nD_val] at h
  exact h.mono fun _ _ h => res_of h
def lX : List Nat := [26, 213, 37, 143, 96, 45, 86, 201, 178, 167, 37, 149, 96, 199, 44, 105, 92, 220, 214, 253, 49, 226, 164, 192, 254, 83, 110, 205, 211, 54, 105, 33]
theorem nX_text : strOf (hexT lX) = ⟨#[50, 49, 54, 57, 51, 54, 100, 51, 99, 100, 54, 101, 53, 51, 102, 101, 99, 48, 97, 52, 101, 50, 51, 49, 102, 100, 100, 54, 100, 99, 53, 99, 54, 57, 50, 99, 99, 55, 54, 48, 57, 53, 50, 53, 97, 55, 98, 50, 99, 57, 53, 54, 50, 100, 54, 48, 56, 102, 50, 53, 100, 53, 49, 97]⟩ := by rw [strOf_eq]; rfl
theorem nX_val : fbytes (byL lX) = toF bxV := Fin.ext (by decide +kernel)
theorem numX : Calls Tryd.prog 29 #[.string ⟨#[50, 49, 54, 57, 51, 54, 100, 51, 99, 100, 54, 101, 53, 51, 102, 101, 99, 48, 97, 52, 101, 50, 51, 49, 102, 100, 100, 54, 100, 99, 53, 99, 54, 57, 50, 99, 99, 55, 54, 48, 57, 53, 50, 53, 97, 55, 98, 50, 99, 57, 53, 54, 50, 100, 54, 48, 56, 102, 50, 53, 100, 53, 49, 97]⟩] w (ResE w (toF bxV)) := by
  have h := number_any lX (by decide) (by decide) w
  rw [nX_text, nX_val] at h
  exact h.mono fun _ _ h => res_of h
def lY : List Nat := [88, 102, 102, 102, 102, 102, 102, 102, 102, 102, 102, 102, 102, 102, 102, 102, 102, 102, 102, 102, 102, 102, 102, 102, 102, 102, 102, 102, 102, 102, 102, 102]
theorem nY_text : strOf (hexT lY) = ⟨#[54, 54, 54, 54, 54, 54, 54, 54, 54, 54, 54, 54, 54, 54, 54, 54, 54, 54, 54, 54, 54, 54, 54, 54, 54, 54, 54, 54, 54, 54, 54, 54, 54, 54, 54, 54, 54, 54, 54, 54, 54, 54, 54, 54, 54, 54, 54, 54, 54, 54, 54, 54, 54, 54, 54, 54, 54, 54, 54, 54, 54, 54, 53, 56]⟩ := by rw [strOf_eq]; rfl
theorem nY_val : fbytes (byL lY) = toF byV := Fin.ext (by decide +kernel)
theorem numY : Calls Tryd.prog 29 #[.string ⟨#[54, 54, 54, 54, 54, 54, 54, 54, 54, 54, 54, 54, 54, 54, 54, 54, 54, 54, 54, 54, 54, 54, 54, 54, 54, 54, 54, 54, 54, 54, 54, 54, 54, 54, 54, 54, 54, 54, 54, 54, 54, 54, 54, 54, 54, 54, 54, 54, 54, 54, 54, 54, 54, 54, 54, 54, 54, 54, 54, 54, 54, 54, 53, 56]⟩] w (ResE w (toF byV)) := by
  have h := number_any lY (by decide) (by decide) w
  rw [nY_text, nY_val] at h
  exact h.mono fun _ _ h => res_of h

theorem addNA (ha : NA a X) (hb : NA b Y) : Calls Tryd.prog 43 #[.agg a, .agg b] w (ResA w (X + Y)) := by
  obtain ⟨xs, rfl, h1⟩ := ha.ex
  obtain ⟨ys, rfl, h2⟩ := hb.ex
  exact (addC w h1 h2).mono fun _ _ h => ResN.ra h
theorem subNA (ha : NA a X) (hb : NA b Y) : Calls Tryd.prog 42 #[.agg a, .agg b] w (ResA w (X - Y)) := by
  obtain ⟨xs, rfl, h1⟩ := ha.ex
  obtain ⟨ys, rfl, h2⟩ := hb.ex
  exact (subC w h1 h2).mono fun _ _ h => ResN.ra h
theorem mulNA (ha : NA a X) (hb : NA b Y) : Calls Tryd.prog 34 #[.agg a, .agg b] w (ResA w (X * Y)) := by
  obtain ⟨xs, rfl, h1⟩ := ha.ex
  obtain ⟨ys, rfl, h2⟩ := hb.ex
  exact (mulC w h1 h2).mono fun _ _ h => ResN.ra h
theorem invNA (ha : NA a X) : Calls Tryd.prog 39 #[.agg a] w (ResA w (finv X)) := by
  obtain ⟨xs, rfl, h1⟩ := ha.ex
  exact (invN_any xs X w h1).mono fun _ _ h => ResN.ra h
theorem sameNA (ha : NA a X) (hb : NA b Y) : Calls Tryd.prog 47 #[.agg a, .agg b] w fun e w' => e = .returned (.bool (decide (X = Y))) ∧ Below w.heap.size w w' := by
  obtain ⟨xs, rfl, h1⟩ := ha.ex
  obtain ⟨ys, rfl, h2⟩ := hb.ex
  have e : decide (X = Y) = decide (X.val = Y.val) := by
    by_cases h : X = Y
    · rw [decide_eq_true h, decide_eq_true (congrArg _ h)]
    · rw [decide_eq_false h, decide_eq_false fun e => h (Fin.ext e)]
  rw [e]
  exact sameC w h1 h2
theorem oddNA (ha : NA a X) : Calls Tryd.prog 41 #[.agg a] w fun e w' => e = .returned (.bool (decide (X.val % 2 = 1))) ∧ Below w.heap.size w w' := by
  obtain ⟨xs, rfl, h1⟩ := ha.ex
  exact oddC w h1
theorem bytesNA (ha : NA a X) : Calls Tryd.prog 40 #[.agg a] w (ResB 5 w (leB 32 X.val)) := by
  obtain ⟨xs, rfl, h1⟩ := ha.ex
  have hl : (leB 32 X.val).length = 32 := leB_len 32 X.val
  refine (bytesC w h1).mono fun e w' h => ?_
  obtain ⟨B, d, h2, h3, h4⟩ := h
  unfold ResB
  rw [hl]
  exact ⟨B, d, h2, h3, h4⟩
theorem na_zero : NA (ivs (List.replicate 16 0)).toArray 0 := ⟨_, rfl, ne_zero⟩
theorem ne_of (n : Nat) (rows : List Int) (hl : rows.length = 16) (hb : rows.all (fun x => decide (0 ≤ x) && decide (x < 65536)) = true) (hv : nv rows = (n : Int)) : NE rows (toF n) := by
  refine ⟨⟨hl, fun k x hx => ?_⟩, ?_⟩
  · have := List.all_eq_true.1 hb x (List.mem_of_getElem? hx)
    rw [Bool.and_eq_true, decide_eq_true_eq, decide_eq_true_eq] at this
    split <;> omega
  · rw [hv]
    show _ = ((n % Pq : Nat) : Int)
    rw [Int.natCast_emod]
theorem smallNA1 : Calls Tryd.prog 33 #[.int .u32 1] w (ResA w 1) :=
  (smallN_any 1 w (by decide)).mono fun _ _ h => ⟨_, ⟨_, rfl, by rw [← toF_one]; exact ne_of 1 _ rfl (by decide) (by decide)⟩, h.1, h.2⟩
end
end Go.Proofs.YtgahjjdbpjgemaaDoor

/-
  Layer 4: the code's points: one of x and y; the sum of two.
-/
namespace Go.Proofs.YtgahjjdbpjgemaaDoor
open Go.RowKit
set_option linter.unusedSimpArgs false

def zE : Array Value := #[.int .u64 0, .int .u64 0, .int .u64 0, .int .u64 0, .int .u64 0]
def zP : Array Value := #[.int .u64 0, .int .u64 0, .int .u64 0, .int .u64 0, .int .u64 0, .int .u64 0, .int .u64 0, .int .u64 0, .int .u64 0, .int .u64 0, .int .u64 0, .int .u64 0, .int .u64 0, .int .u64 0, .int .u64 0, .int .u64 0, .int .u64 0, .int .u64 0, .int .u64 0, .int .u64 0]
def zN : Array Value := (ivs (List.replicate 16 0)).toArray
def zQ : Array Value := (ivs (List.replicate 64 0)).toArray
theorem rowE : RowOf Tryd.prog 27 5 := ⟨⟨_, Tryd.underlying27, rfl⟩, by kernel_rfl⟩
theorem rowP : RowOf Tryd.prog 29 20 := ⟨⟨_, Tryd.underlying29, rfl⟩, by kernel_rfl⟩
theorem rowN : RowOf Tryd.prog 34 16 := ⟨⟨_, Tryd.underlying34, rfl⟩, by kernel_rfl⟩
theorem rowQ : RowOf Tryd.prog 36 64 := ⟨⟨_, Tryd.underlying36, rfl⟩, by kernel_rfl⟩
theorem newE : NewOf Tryd.prog 27 zE := fun x => by kernel_rfl
theorem newP : NewOf Tryd.prog 29 zP := fun x => by kernel_rfl
theorem newN : NewOf Tryd.prog 34 zN := fun x => by kernel_rfl
theorem newQ : NewOf Tryd.prog 36 zQ := fun x => by kernel_rfl
theorem arr_zE : Arr 5 zE := ⟨rfl, by kernel_rfl⟩
theorem arr_zP : Arr 20 zP := ⟨rfl, by kernel_rfl⟩
theorem arr_zN : Arr 16 zN := ⟨by kernel_rfl, by kernel_rfl⟩
theorem arr_zQ : Arr 64 zQ := ⟨by kernel_rfl, by kernel_rfl⟩
theorem qE {a b c d : Array Value} {X Y Z T : FK} (h1 : EA a X) (h2 : EA b Y) (h3 : EA c Z) (h4 : EA d T) : Arr 20 (quad a b c d) := quad_arr h1.arr h2.arr h3.arr h4.arr rfl
theorem qN {a b c d : Array Value} {X Y Z T : FK} (h1 : NA a X) (h2 : NA b Y) (h3 : NA c Z) (h4 : NA d T) : Arr 64 (quad a b c d) := quad_arr h1.arr h2.arr h3.arr h4.arr rfl
theorem ea_zE : EA zE 0 := ea_zero
theorem na_zN : NA zN 0 := na_zero
theorem exE {a : Array Value} {X : FK} (h : EA a X) : ∃ X, EA a X := ⟨_, h⟩
theorem exN {a : Array Value} {X : FK} (h : NA a X) : ∃ X, NA a X := ⟨_, h⟩
theorem buildQ0 (a0 a1 a2 a3 a4 a5 a6 a7 a8 a9 a10 a11 a12 a13 a14 a15 b0 b1 b2 b3 b4 b5 b6 b7 b8 b9 b10 b11 b12 b13 b14 b15 c0 c1 c2 c3 c4 c5 c6 c7 c8 c9 c10 c11 c12 c13 c14 c15 d0 d1 d2 d3 d4 d5 d6 d7 d8 d9 d10 d11 d12 d13 d14 d15 : Value) : (Tryd.prog.built 36 [(0, .agg #[a0, a1, a2, a3, a4, a5, a6, a7, a8, a9, a10, a11, a12, a13, a14, a15]), (1, .agg #[b0, b1, b2, b3, b4, b5, b6, b7, b8, b9, b10, b11, b12, b13, b14, b15]), (2, .agg #[c0, c1, c2, c3, c4, c5, c6, c7, c8, c9, c10, c11, c12, c13, c14, c15]), (3, .agg #[d0, d1, d2, d3, d4, d5, d6, d7, d8, d9, d10, d11, d12, d13, d14, d15])]) = some (quad #[a0, a1, a2, a3, a4, a5, a6, a7, a8, a9, a10, a11, a12, a13, a14, a15] #[b0, b1, b2, b3, b4, b5, b6, b7, b8, b9, b10, b11, b12, b13, b14, b15] #[c0, c1, c2, c3, c4, c5, c6, c7, c8, c9, c10, c11, c12, c13, c14, c15] #[d0, d1, d2, d3, d4, d5, d6, d7, d8, d9, d10, d11, d12, d13, d14, d15]) := by kernel_rfl
theorem arr16 {a : Array Value} (h : a.size = 16) : ∃ a0 a1 a2 a3 a4 a5 a6 a7 a8 a9 a10 a11 a12 a13 a14 a15 : Value, a = #[a0, a1, a2, a3, a4, a5, a6, a7, a8, a9, a10, a11, a12, a13, a14, a15] := by
  obtain ⟨l⟩ := a
  match l, h with
  | [a0, a1, a2, a3, a4, a5, a6, a7, a8, a9, a10, a11, a12, a13, a14, a15], _ => exact ⟨a0, a1, a2, a3, a4, a5, a6, a7, a8, a9, a10, a11, a12, a13, a14, a15, rfl⟩
theorem buildQ : BuildOf Tryd.prog 36 (fun a => ∃ X, NA a X) := fun a b c d ha hb hc hd => by
  obtain ⟨_, ha⟩ := ha
  obtain ⟨_, hb⟩ := hb
  obtain ⟨_, hc⟩ := hc
  obtain ⟨_, hd⟩ := hd
  obtain ⟨a0, a1, a2, a3, a4, a5, a6, a7, a8, a9, a10, a11, a12, a13, a14, a15, rfl⟩ := arr16 ha.arr.size
  obtain ⟨b0, b1, b2, b3, b4, b5, b6, b7, b8, b9, b10, b11, b12, b13, b14, b15, rfl⟩ := arr16 hb.arr.size
  obtain ⟨c0, c1, c2, c3, c4, c5, c6, c7, c8, c9, c10, c11, c12, c13, c14, c15, rfl⟩ := arr16 hc.arr.size
  obtain ⟨d0, d1, d2, d3, d4, d5, d6, d7, d8, d9, d10, d11, d12, d13, d14, d15, rfl⟩ := arr16 hd.arr.size
  exact buildQ0 _ _ _ _ _ _ _ _ _ _ _ _ _ _ _ _ _ _ _ _ _ _ _ _ _ _ _ _ _ _ _ _ _ _ _ _ _ _ _ _ _ _ _ _ _ _ _ _ _ _ _ _ _ _ _ _ _ _ _ _ _ _ _ _
theorem buildP : BuildOf Tryd.prog 29 (fun a => ∃ X, EA a X) := fun a b c d ha hb hc hd => by
  obtain ⟨_, ha⟩ := ha
  obtain ⟨_, hb⟩ := hb
  obtain ⟨_, hc⟩ := hc
  obtain ⟨_, hd⟩ := hd
  obtain ⟨_, _, _, _, _, rfl, _, _⟩ := ha.ex
  obtain ⟨_, _, _, _, _, rfl, _, _⟩ := hb.ex
  obtain ⟨_, _, _, _, _, rfl, _, _⟩ := hc.ex
  obtain ⟨_, _, _, _, _, rfl, _, _⟩ := hd.ex
  kernel_rfl
/-- A point's four numbers. -/
def ResP (w : World) (A : Pj) (e : Ending) (w' : World) : Prop := ∃ a b c d, EA a A.X ∧ EA b A.Y ∧ EA c A.Z ∧ EA d A.T ∧ e = .returned (.agg (quad a b c d)) ∧ Below w.heap.size w w'
set_option maxRecDepth 100000 in
set_option maxHeartbeats 1600000 in
theorem at_any {a b : Array Value} {X Y : FK} (w : World) (hea : EA a X) (heb : EA b Y) : Calls Tryd.prog 28 #[.agg a, .agg b] w (ResP w ⟨X, Y, 1, X * Y⟩) := by
  have HS := hide (St.init w NoB)
  go_enter Tryd.func28, Tryd.ntmps28
  go_wp2_with (first | (refine wl_loadP rfl rfl rfl HS.out (by (repeat first | exact .head _ | apply List.Mem.tail)) (by first | exact rowE | exact rowP | exact rowN | exact rowQ) (by (first | exact .q0 (EA.arr ‹_›) | exact .q1 (EA.arr ‹_›) (EA.arr ‹_›) | exact .q2 (EA.arr ‹_›) (EA.arr ‹_›) (EA.arr ‹_›) | exact .q3 (EA.arr ‹_›) (EA.arr ‹_›) (EA.arr ‹_›) (EA.arr ‹_›) | exact .q0 (NA.arr ‹_›) | exact .q1 (NA.arr ‹_›) (NA.arr ‹_›) | exact .q2 (NA.arr ‹_›) (NA.arr ‹_›) (NA.arr ‹_›) | exact .q3 (NA.arr ‹_›) (NA.arr ‹_›) (NA.arr ‹_›) (NA.arr ‹_›) | exact .all (by (first | exact EA.arr ‹_› | exact NA.arr ‹_› | exact arr_zE | exact arr_zN | exact arr_zP | exact arr_zQ | exact PtN.arr ‹_› | exact PtV.arr ‹_› | exact QtN.arr ‹_› | exact qE ‹_› ‹_› ‹_› ‹_› | exact qN ‹_› ‹_› ‹_› ‹_›)))) ?_; (try simp only [Act.put, nq1, nq2, nq3, nq4, nq5, nq6])) | (refine wl_storeR rfl rfl rfl rfl HS.out (by first | exact rowE | exact rowP | exact rowN | exact rowQ) (by (repeat first | exact .head | apply Upd.tail)) (by (first | exact EA.arr ‹_› | exact NA.arr ‹_› | exact arr_zE | exact arr_zN | exact arr_zP | exact arr_zQ | exact PtN.arr ‹_› | exact PtV.arr ‹_› | exact QtN.arr ‹_› | exact qE ‹_› ‹_› ‹_› ‹_› | exact qN ‹_› ‹_› ‹_› ‹_›)) (by (first | exact EA.arr ‹_› | exact NA.arr ‹_› | exact arr_zE | exact arr_zN | exact arr_zP | exact arr_zQ | exact PtN.arr ‹_› | exact PtV.arr ‹_› | exact QtN.arr ‹_› | exact qE ‹_› ‹_› ‹_› ‹_› | exact qN ‹_› ‹_› ‹_› ‹_›)) ?_; intro wz hS9; have HS := hide hS9; clear hS9; (try simp only [Act.put, nq1, nq2, nq3, nq4, nq5, nq6])) | (refine wl_allocR rfl rfl HS.out (by first | exact newE | exact newP | exact newN | exact newQ) ?_; intro gz wz hS9; have HS := hide hS9; clear hS9; (try simp only [Act.put, nq1, nq2, nq3, nq4, nq5, nq6])) | (refine wl_boxR rfl rfl rfl HS.out ?_; intro gz wz hS9; have HS := hide hS9; clear hS9; (try simp only [Act.put, nq1, nq2, nq3, nq4, nq5, nq6])) | (refine wpT_loadP rfl rfl rfl rfl HS.out (by (repeat first | exact .head _ | apply List.Mem.tail)) (by first | exact rowE | exact rowP | exact rowN | exact rowQ) (by (first | exact .q0 (EA.arr ‹_›) | exact .q1 (EA.arr ‹_›) (EA.arr ‹_›) | exact .q2 (EA.arr ‹_›) (EA.arr ‹_›) (EA.arr ‹_›) | exact .q3 (EA.arr ‹_›) (EA.arr ‹_›) (EA.arr ‹_›) (EA.arr ‹_›) | exact .q0 (NA.arr ‹_›) | exact .q1 (NA.arr ‹_›) (NA.arr ‹_›) | exact .q2 (NA.arr ‹_›) (NA.arr ‹_›) (NA.arr ‹_›) | exact .q3 (NA.arr ‹_›) (NA.arr ‹_›) (NA.arr ‹_›) (NA.arr ‹_›) | exact .all (by (first | exact EA.arr ‹_› | exact NA.arr ‹_› | exact arr_zE | exact arr_zN | exact arr_zP | exact arr_zQ | exact PtN.arr ‹_› | exact PtV.arr ‹_› | exact QtN.arr ‹_› | exact qE ‹_› ‹_› ‹_› ‹_› | exact qN ‹_› ‹_› ‹_› ‹_›)))) ?_; (try simp only [Act.put, nq1, nq2, nq3, nq4, nq5, nq6])) | (refine wpT_pure rfl rfl (fun x => run_build4 rfl rfl rfl rfl rfl buildP (exE (by assumption)) (exE (by assumption)) (exE (by assumption)) (exE (by assumption)) x) ?_; (try simp only [Act.put, nq1, nq2, nq3, nq4, nq5, nq6])) | (refine wpT_pure rfl rfl (fun x => run_build4 rfl rfl rfl rfl rfl buildQ (exN (by assumption)) (exN (by assumption)) (exN (by assumption)) (exN (by assumption)) x) ?_; (try simp only [Act.put, nq1, nq2, nq3, nq4, nq5, nq6])) | (refine wpT_late rfl rfl ?_; intro K hK; refine wp_storeR rfl rfl rfl HS.out (by first | exact rowE | exact rowP | exact rowN | exact rowQ) (by (repeat first | exact .head | apply Upd.tail)) (by (first | exact EA.arr ‹_› | exact NA.arr ‹_› | exact arr_zE | exact arr_zN | exact arr_zP | exact arr_zQ | exact PtN.arr ‹_› | exact PtV.arr ‹_› | exact QtN.arr ‹_› | exact qE ‹_› ‹_› ‹_› ‹_› | exact qN ‹_› ‹_› ‹_› ‹_›)) (by (first | exact EA.arr ‹_› | exact NA.arr ‹_› | exact arr_zE | exact arr_zN | exact arr_zP | exact arr_zQ | exact PtN.arr ‹_› | exact PtV.arr ‹_› | exact QtN.arr ‹_› | exact qE ‹_› ‹_› ‹_› ‹_› | exact qN ‹_› ‹_› ‹_› ‹_›)) ?_; intro wz hS9; have HS := hide hS9; clear hS9) | (refine wpT_any rfl rfl ?_; intro K hK; refine wp_storeR rfl rfl rfl HS.out (by first | exact rowE | exact rowP | exact rowN | exact rowQ) (by (repeat first | exact .head | apply Upd.tail)) (by (first | exact EA.arr ‹_› | exact NA.arr ‹_› | exact arr_zE | exact arr_zN | exact arr_zP | exact arr_zQ | exact PtN.arr ‹_› | exact PtV.arr ‹_› | exact QtN.arr ‹_› | exact qE ‹_› ‹_› ‹_› ‹_› | exact qN ‹_› ‹_› ‹_› ‹_›)) (by (first | exact EA.arr ‹_› | exact NA.arr ‹_› | exact arr_zE | exact arr_zN | exact arr_zP | exact arr_zQ | exact PtN.arr ‹_› | exact PtV.arr ‹_› | exact QtN.arr ‹_› | exact qE ‹_› ‹_› ‹_› ‹_› | exact qN ‹_› ‹_› ‹_› ‹_›)) ?_; intro wz hS9; have HS := hide hS9; clear hS9) | (refine wpX_loadP rfl rfl rfl rfl HS.out (by (repeat first | exact .head _ | apply List.Mem.tail)) (by first | exact rowE | exact rowP | exact rowN | exact rowQ) (by (first | exact .q0 (EA.arr ‹_›) | exact .q1 (EA.arr ‹_›) (EA.arr ‹_›) | exact .q2 (EA.arr ‹_›) (EA.arr ‹_›) (EA.arr ‹_›) | exact .q3 (EA.arr ‹_›) (EA.arr ‹_›) (EA.arr ‹_›) (EA.arr ‹_›) | exact .q0 (NA.arr ‹_›) | exact .q1 (NA.arr ‹_›) (NA.arr ‹_›) | exact .q2 (NA.arr ‹_›) (NA.arr ‹_›) (NA.arr ‹_›) | exact .q3 (NA.arr ‹_›) (NA.arr ‹_›) (NA.arr ‹_›) (NA.arr ‹_›) | exact .all (by (first | exact EA.arr ‹_› | exact NA.arr ‹_› | exact arr_zE | exact arr_zN | exact arr_zP | exact arr_zQ | exact PtN.arr ‹_› | exact PtV.arr ‹_› | exact QtN.arr ‹_› | exact qE ‹_› ‹_› ‹_› ‹_› | exact qN ‹_› ‹_› ‹_› ‹_›)))) ?_; (try simp only [Act.put, nq1, nq2, nq3, nq4, nq5, nq6])) | (refine wpX_pure rfl rfl (fun x => run_build4 rfl rfl rfl rfl rfl buildP (exE (by assumption)) (exE (by assumption)) (exE (by assumption)) (exE (by assumption)) x) ?_; (try simp only [Act.put, nq1, nq2, nq3, nq4, nq5, nq6])) | (refine wpX_pure rfl rfl (fun x => run_build4 rfl rfl rfl rfl rfl buildQ (exN (by assumption)) (exN (by assumption)) (exN (by assumption)) (exN (by assumption)) x) ?_; (try simp only [Act.put, nq1, nq2, nq3, nq4, nq5, nq6])) | (refine wpX_nil ?_; intro G xz hx0 hx hF; have hS9 := HS.out.floats hx0 hF _ (by decide) (fun _ h => h); simp only [List.map_cons, List.map_nil, List.cons_append, List.nil_append] at hS9; have HS := hide hS9; clear hS9 hF hx0 hx; simp only [putsE, List.foldl_cons, List.foldl_nil]; (try simp only [Act.put, nq1, nq2, nq3, nq4, nq5, nq6])) | (refine wpX_pure (v := ?_) rfl rfl ?_ ?_; rotate_left; (intro wx; go_simp; try go_bits) <;> (with_reducible rfl); (try simp only [Act.put, nq1, nq2, nq3, nq4, nq5, nq6])) | (refine wpX_call rfl rfl ?_; intro xc hxc K hK) | (refine wpX_skip rfl rfl ?_; (try simp only [Act.put, nq1, nq2, nq3, nq4, nq5, nq6])))
  have HS := hide HS.out.drew
  refine wp_region_T [(0, 0), (1, 0), (3, 0), (4, 0), (2, 2), (5, 2), (6, 1), (7, 3)] (by kernel_rfl) (by kernel_rfl) (fun _ _ _ _ h => h) ?_
  go_wp2_with (first | (go_at_call 48; (with_reducible refine (small1A _).mono ?_); rintro e wy ⟨z, hz, rfl, hb⟩; try have HS := hide (HS.out.call hb)) | (go_at_call 36; (with_reducible refine (mulA _ (by assumption) (by assumption)).mono ?_); rintro e wy ⟨z, hz, rfl, hb⟩; try have HS := hide (HS.out.call hb)) | (go_at_call 53; (with_reducible refine (addA _ (by assumption) (by assumption)).mono ?_); rintro e wy ⟨z, hz, rfl, hb⟩; try have HS := hide (HS.out.call hb)) | (go_at_call 52; (with_reducible refine (subA _ (by assumption) (by assumption)).mono ?_); rintro e wy ⟨z, hz, rfl, hb⟩; try have HS := hide (HS.out.call hb)) | (go_at_call 45; (with_reducible refine (negA _ (by assumption)).mono ?_); rintro e wy ⟨z, hz, rfl, hb⟩; try have HS := hide (HS.out.call hb)) | (go_at_call 35; (with_reducible refine (invA _ (by assumption)).mono ?_); rintro e wy ⟨z, hz, rfl, hb⟩; try have HS := hide (HS.out.call hb)) | (refine wl_loadP rfl rfl rfl HS.out (by (repeat first | exact .head _ | apply List.Mem.tail)) (by first | exact rowE | exact rowP | exact rowN | exact rowQ) (by (first | exact .q0 (EA.arr ‹_›) | exact .q1 (EA.arr ‹_›) (EA.arr ‹_›) | exact .q2 (EA.arr ‹_›) (EA.arr ‹_›) (EA.arr ‹_›) | exact .q3 (EA.arr ‹_›) (EA.arr ‹_›) (EA.arr ‹_›) (EA.arr ‹_›) | exact .q0 (NA.arr ‹_›) | exact .q1 (NA.arr ‹_›) (NA.arr ‹_›) | exact .q2 (NA.arr ‹_›) (NA.arr ‹_›) (NA.arr ‹_›) | exact .q3 (NA.arr ‹_›) (NA.arr ‹_›) (NA.arr ‹_›) (NA.arr ‹_›) | exact .all (by (first | exact EA.arr ‹_› | exact NA.arr ‹_› | exact arr_zE | exact arr_zN | exact arr_zP | exact arr_zQ | exact PtN.arr ‹_› | exact PtV.arr ‹_› | exact QtN.arr ‹_› | exact qE ‹_› ‹_› ‹_› ‹_› | exact qN ‹_› ‹_› ‹_› ‹_›)))) ?_; (try simp only [Act.put, nq1, nq2, nq3, nq4, nq5, nq6])) | (refine wl_storeR rfl rfl rfl rfl HS.out (by first | exact rowE | exact rowP | exact rowN | exact rowQ) (by (repeat first | exact .head | apply Upd.tail)) (by (first | exact EA.arr ‹_› | exact NA.arr ‹_› | exact arr_zE | exact arr_zN | exact arr_zP | exact arr_zQ | exact PtN.arr ‹_› | exact PtV.arr ‹_› | exact QtN.arr ‹_› | exact qE ‹_› ‹_› ‹_› ‹_› | exact qN ‹_› ‹_› ‹_› ‹_›)) (by (first | exact EA.arr ‹_› | exact NA.arr ‹_› | exact arr_zE | exact arr_zN | exact arr_zP | exact arr_zQ | exact PtN.arr ‹_› | exact PtV.arr ‹_› | exact QtN.arr ‹_› | exact qE ‹_› ‹_› ‹_› ‹_› | exact qN ‹_› ‹_› ‹_› ‹_›)) ?_; intro wz hS9; have HS := hide hS9; clear hS9; (try simp only [Act.put, nq1, nq2, nq3, nq4, nq5, nq6])) | (refine wl_allocR rfl rfl HS.out (by first | exact newE | exact newP | exact newN | exact newQ) ?_; intro gz wz hS9; have HS := hide hS9; clear hS9; (try simp only [Act.put, nq1, nq2, nq3, nq4, nq5, nq6])) | (refine wl_boxR rfl rfl rfl HS.out ?_; intro gz wz hS9; have HS := hide hS9; clear hS9; (try simp only [Act.put, nq1, nq2, nq3, nq4, nq5, nq6])) | (refine wpT_loadP rfl rfl rfl rfl HS.out (by (repeat first | exact .head _ | apply List.Mem.tail)) (by first | exact rowE | exact rowP | exact rowN | exact rowQ) (by (first | exact .q0 (EA.arr ‹_›) | exact .q1 (EA.arr ‹_›) (EA.arr ‹_›) | exact .q2 (EA.arr ‹_›) (EA.arr ‹_›) (EA.arr ‹_›) | exact .q3 (EA.arr ‹_›) (EA.arr ‹_›) (EA.arr ‹_›) (EA.arr ‹_›) | exact .q0 (NA.arr ‹_›) | exact .q1 (NA.arr ‹_›) (NA.arr ‹_›) | exact .q2 (NA.arr ‹_›) (NA.arr ‹_›) (NA.arr ‹_›) | exact .q3 (NA.arr ‹_›) (NA.arr ‹_›) (NA.arr ‹_›) (NA.arr ‹_›) | exact .all (by (first | exact EA.arr ‹_› | exact NA.arr ‹_› | exact arr_zE | exact arr_zN | exact arr_zP | exact arr_zQ | exact PtN.arr ‹_› | exact PtV.arr ‹_› | exact QtN.arr ‹_› | exact qE ‹_› ‹_› ‹_› ‹_› | exact qN ‹_› ‹_› ‹_› ‹_›)))) ?_; (try simp only [Act.put, nq1, nq2, nq3, nq4, nq5, nq6])) | (refine wpT_pure rfl rfl (fun x => run_build4 rfl rfl rfl rfl rfl buildP (exE (by assumption)) (exE (by assumption)) (exE (by assumption)) (exE (by assumption)) x) ?_; (try simp only [Act.put, nq1, nq2, nq3, nq4, nq5, nq6])) | (refine wpT_pure rfl rfl (fun x => run_build4 rfl rfl rfl rfl rfl buildQ (exN (by assumption)) (exN (by assumption)) (exN (by assumption)) (exN (by assumption)) x) ?_; (try simp only [Act.put, nq1, nq2, nq3, nq4, nq5, nq6])) | (refine wpT_late rfl rfl ?_; intro K hK; refine wp_storeR rfl rfl rfl HS.out (by first | exact rowE | exact rowP | exact rowN | exact rowQ) (by (repeat first | exact .head | apply Upd.tail)) (by (first | exact EA.arr ‹_› | exact NA.arr ‹_› | exact arr_zE | exact arr_zN | exact arr_zP | exact arr_zQ | exact PtN.arr ‹_› | exact PtV.arr ‹_› | exact QtN.arr ‹_› | exact qE ‹_› ‹_› ‹_› ‹_› | exact qN ‹_› ‹_› ‹_› ‹_›)) (by (first | exact EA.arr ‹_› | exact NA.arr ‹_› | exact arr_zE | exact arr_zN | exact arr_zP | exact arr_zQ | exact PtN.arr ‹_› | exact PtV.arr ‹_› | exact QtN.arr ‹_› | exact qE ‹_› ‹_› ‹_› ‹_› | exact qN ‹_› ‹_› ‹_› ‹_›)) ?_; intro wz hS9; have HS := hide hS9; clear hS9) | (refine wpT_any rfl rfl ?_; intro K hK; refine wp_storeR rfl rfl rfl HS.out (by first | exact rowE | exact rowP | exact rowN | exact rowQ) (by (repeat first | exact .head | apply Upd.tail)) (by (first | exact EA.arr ‹_› | exact NA.arr ‹_› | exact arr_zE | exact arr_zN | exact arr_zP | exact arr_zQ | exact PtN.arr ‹_› | exact PtV.arr ‹_› | exact QtN.arr ‹_› | exact qE ‹_› ‹_› ‹_› ‹_› | exact qN ‹_› ‹_› ‹_› ‹_›)) (by (first | exact EA.arr ‹_› | exact NA.arr ‹_› | exact arr_zE | exact arr_zN | exact arr_zP | exact arr_zQ | exact PtN.arr ‹_› | exact PtV.arr ‹_› | exact QtN.arr ‹_› | exact qE ‹_› ‹_› ‹_› ‹_› | exact qN ‹_› ‹_› ‹_› ‹_›)) ?_; intro wz hS9; have HS := hide hS9; clear hS9) | (refine wpX_loadP rfl rfl rfl rfl HS.out (by (repeat first | exact .head _ | apply List.Mem.tail)) (by first | exact rowE | exact rowP | exact rowN | exact rowQ) (by (first | exact .q0 (EA.arr ‹_›) | exact .q1 (EA.arr ‹_›) (EA.arr ‹_›) | exact .q2 (EA.arr ‹_›) (EA.arr ‹_›) (EA.arr ‹_›) | exact .q3 (EA.arr ‹_›) (EA.arr ‹_›) (EA.arr ‹_›) (EA.arr ‹_›) | exact .q0 (NA.arr ‹_›) | exact .q1 (NA.arr ‹_›) (NA.arr ‹_›) | exact .q2 (NA.arr ‹_›) (NA.arr ‹_›) (NA.arr ‹_›) | exact .q3 (NA.arr ‹_›) (NA.arr ‹_›) (NA.arr ‹_›) (NA.arr ‹_›) | exact .all (by (first | exact EA.arr ‹_› | exact NA.arr ‹_› | exact arr_zE | exact arr_zN | exact arr_zP | exact arr_zQ | exact PtN.arr ‹_› | exact PtV.arr ‹_› | exact QtN.arr ‹_› | exact qE ‹_› ‹_› ‹_› ‹_› | exact qN ‹_› ‹_› ‹_› ‹_›)))) ?_; (try simp only [Act.put, nq1, nq2, nq3, nq4, nq5, nq6])) | (refine wpX_pure rfl rfl (fun x => run_build4 rfl rfl rfl rfl rfl buildP (exE (by assumption)) (exE (by assumption)) (exE (by assumption)) (exE (by assumption)) x) ?_; (try simp only [Act.put, nq1, nq2, nq3, nq4, nq5, nq6])) | (refine wpX_pure rfl rfl (fun x => run_build4 rfl rfl rfl rfl rfl buildQ (exN (by assumption)) (exN (by assumption)) (exN (by assumption)) (exN (by assumption)) x) ?_; (try simp only [Act.put, nq1, nq2, nq3, nq4, nq5, nq6])) | (refine wpX_nil ?_; intro G xz hx0 hx hF; have hS9 := HS.out.floats hx0 hF _ (by decide) (fun _ h => h); simp only [List.map_cons, List.map_nil, List.cons_append, List.nil_append] at hS9; have HS := hide hS9; clear hS9 hF hx0 hx; simp only [putsE, List.foldl_cons, List.foldl_nil]; (try simp only [Act.put, nq1, nq2, nq3, nq4, nq5, nq6])) | (refine wpX_pure (v := ?_) rfl rfl ?_ ?_; rotate_left; (intro wx; go_simp; try go_bits) <;> (with_reducible rfl); (try simp only [Act.put, nq1, nq2, nq3, nq4, nq5, nq6])) | (refine wpX_call rfl rfl ?_; intro xc hxc K hK) | (refine wpX_skip rfl rfl ?_; (try simp only [Act.put, nq1, nq2, nq3, nq4, nq5, nq6])) | (refine wpT_nil ?_)   | ((with_reducible refine fromT_refl ?_); (try simp only [Act.put, nq1, nq2, nq3, nq4, nq5, nq6]))   | ((with_reducible refine fromT_mk (by assumption) ?_); (try simp only [Act.put, nq1, nq2, nq3, nq4, nq5, nq6]))   | (refine wpT_pure (v := ?_) rfl rfl ?_ ?_; rotate_left; (intro wx; go_simp; try go_bits) <;> (with_reducible rfl); (try simp only [Act.put, nq1, nq2, nq3, nq4, nq5, nq6]))   | (refine wpT_load (v := ?_) rfl rfl rfl ?_ ?_; rotate_left; (go_simp; try go_bits) <;> (with_reducible rfl); (try simp only [Act.put, nq1, nq2, nq3, nq4, nq5, nq6]))   | (refine wpT_read (v := ?_) rfl rfl ?_ ?_; rotate_left; (intro wx hx; go_simp; try go_bits) <;> (with_reducible rfl); (try simp only [Act.put, nq1, nq2, nq3, nq4, nq5, nq6]))   | (refine wpT_call rfl rfl ?_; intro K hK)   | (refine wpT_late rfl rfl ?_; intro K hK)   | (refine wpT_any rfl rfl ?_; intro K hK)   | (refine wpT_skip rfl rfl ?_; (try simp only [Act.put, nq1, nq2, nq3, nq4, nq5, nq6])))
  refine bodyPost_ret (results_cell_row rfl _ _ _ _ _ _ _ rfl (HS.out.heapM (by (repeat first | exact .head _ | apply List.Mem.tail))) Tryd.underlying29 rfl (by first | (rw [(EA.arr ‹_›).size]; kernel_rfl) | (rw [(NA.arr ‹_›).size]; kernel_rfl) | (rw [(qE ‹_› ‹_› ‹_› ‹_›).size]; kernel_rfl) | (rw [(qN ‹_› ‹_› ‹_› ‹_›).size]; kernel_rfl) | (rw [(PtN.arr ‹_›).size]; kernel_rfl) | (rw [(PtV.arr ‹_›).size]; kernel_rfl) | (rw [(QtN.arr ‹_›).size]; kernel_rfl))) rfl ?_
  exact ⟨_, _, _, _, hea, heb, by assumption, by assumption, rfl, HS.out.below⟩
end Go.Proofs.YtgahjjdbpjgemaaDoor

/-
  Layer 4: the code's sum of two points.
-/
namespace Go.Proofs.YtgahjjdbpjgemaaDoor
open Go.RowKit
set_option linter.unusedSimpArgs false

theorem en36_pl (args : Array Value) (w : World) : (callFunc 36 args).run Tryd.prog w = .ok (.enter 36 args) w := by kernel_rfl
theorem en52_pl (args : Array Value) (w : World) : (callFunc 52 args).run Tryd.prog w = .ok (.enter 52 args) w := by kernel_rfl
theorem en53_pl (args : Array Value) (w : World) : (callFunc 53 args).run Tryd.prog w = .ok (.enter 53 args) w := by kernel_rfl
set_option maxRecDepth 100000 in
set_option maxHeartbeats 6400000 in
theorem plus_any {a b c d a' b' c' d' k : Array Value} {X Y Z T X' Y' Z' T' : FK} (w : World) (h1 : EA a X) (h2 : EA b Y) (h3 : EA c Z) (h4 : EA d T) (g1 : EA a' X') (g2 : EA b' Y') (g3 : EA c' Z') (g4 : EA d' T') (hk : EA k dF) :
    Calls Tryd.prog 31 #[.agg (quad a b c d), .agg (quad a' b' c' d'), .agg k] w (ResP w (plJ ⟨X, Y, Z, T⟩ ⟨X', Y', Z', T'⟩)) := by
  have HS := hide (St.init w NoB)
  go_enter Tryd.func31, Tryd.ntmps31
  go_wp2_with (first | (refine wl_loadP rfl rfl rfl HS.out (by (repeat first | exact .head _ | apply List.Mem.tail)) (by first | exact rowE | exact rowP | exact rowN | exact rowQ) (by (first | exact .q0 (EA.arr ‹_›) | exact .q1 (EA.arr ‹_›) (EA.arr ‹_›) | exact .q2 (EA.arr ‹_›) (EA.arr ‹_›) (EA.arr ‹_›) | exact .q3 (EA.arr ‹_›) (EA.arr ‹_›) (EA.arr ‹_›) (EA.arr ‹_›) | exact .q0 (NA.arr ‹_›) | exact .q1 (NA.arr ‹_›) (NA.arr ‹_›) | exact .q2 (NA.arr ‹_›) (NA.arr ‹_›) (NA.arr ‹_›) | exact .q3 (NA.arr ‹_›) (NA.arr ‹_›) (NA.arr ‹_›) (NA.arr ‹_›) | exact .all (by (first | exact EA.arr ‹_› | exact NA.arr ‹_› | exact arr_zE | exact arr_zN | exact arr_zP | exact arr_zQ | exact PtN.arr ‹_› | exact PtV.arr ‹_› | exact QtN.arr ‹_› | exact qE ‹_› ‹_› ‹_› ‹_› | exact qN ‹_› ‹_› ‹_› ‹_›)))) ?_; (try simp only [Act.put, nq1, nq2, nq3, nq4, nq5, nq6])) | (refine wl_storeR rfl rfl rfl rfl HS.out (by first | exact rowE | exact rowP | exact rowN | exact rowQ) (by (repeat first | exact .head | apply Upd.tail)) (by (first | exact EA.arr ‹_› | exact NA.arr ‹_› | exact arr_zE | exact arr_zN | exact arr_zP | exact arr_zQ | exact PtN.arr ‹_› | exact PtV.arr ‹_› | exact QtN.arr ‹_› | exact qE ‹_› ‹_› ‹_› ‹_› | exact qN ‹_› ‹_› ‹_› ‹_›)) (by (first | exact EA.arr ‹_› | exact NA.arr ‹_› | exact arr_zE | exact arr_zN | exact arr_zP | exact arr_zQ | exact PtN.arr ‹_› | exact PtV.arr ‹_› | exact QtN.arr ‹_› | exact qE ‹_› ‹_› ‹_› ‹_› | exact qN ‹_› ‹_› ‹_› ‹_›)) ?_; intro wz hS9; have HS := hide hS9; clear hS9; (try simp only [Act.put, nq1, nq2, nq3, nq4, nq5, nq6])) | (refine wl_allocR rfl rfl HS.out (by first | exact newE | exact newP | exact newN | exact newQ) ?_; intro gz wz hS9; have HS := hide hS9; clear hS9; (try simp only [Act.put, nq1, nq2, nq3, nq4, nq5, nq6])) | (refine wl_boxR rfl rfl rfl HS.out ?_; intro gz wz hS9; have HS := hide hS9; clear hS9; (try simp only [Act.put, nq1, nq2, nq3, nq4, nq5, nq6])))
  have HS := hide HS.out.drew
  refine wp_region_XE [(11, 7)] [(0, 1), (1, 0), (2, 1), (3, 0), (5, 1), (6, 0), (7, 1), (8, 0), (4, 2), (9, 2), (10, 2)] (.op 12 2 (.nil)) zE 27 (by kernel_rfl) (by kernel_rfl) (by kernel_rfl) (by intro p hp; simp only [List.mem_cons, List.not_mem_nil, or_false] at hp; subst hp <;> exact flOp_of rfl rfl rfl (fun ev x => run_allocR rfl newE ev x)) (fun _ _ _ _ h => h) ?_
  (refine wpX_pure (v := ?_) rfl rfl ?_ ?_; rotate_left; (intro wx; go_simp; try go_bits) <;> (with_reducible rfl)); (try simp only [Act.put, nq1, nq2, nq3, nq4, nq5, nq6])
  refine wpX_loadP rfl rfl rfl rfl HS.out (.tail _ (.tail _ (.tail _ (.head _)))) rowE (.q1 (EA.arr ‹_›) (EA.arr ‹_›)) ?_; (try simp only [Act.put, nq1, nq2, nq3, nq4, nq5, nq6])
  (refine wpX_pure (v := ?_) rfl rfl ?_ ?_; rotate_left; (intro wx; go_simp; try go_bits) <;> (with_reducible rfl)); (try simp only [Act.put, nq1, nq2, nq3, nq4, nq5, nq6])
  refine wpX_loadP rfl rfl rfl rfl HS.out (.tail _ (.tail _ (.tail _ (.head _)))) rowE (.q0 (EA.arr ‹_›)) ?_; (try simp only [Act.put, nq1, nq2, nq3, nq4, nq5, nq6])
  (refine wpX_pure (v := ?_) rfl rfl ?_ ?_; rotate_left; (intro wx; go_simp; try go_bits) <;> (with_reducible rfl)); (try simp only [Act.put, nq1, nq2, nq3, nq4, nq5, nq6])
  refine wpX_loadP rfl rfl rfl rfl HS.out (.tail _ (.tail _ (.head _))) rowE (.q1 (EA.arr ‹_›) (EA.arr ‹_›)) ?_; (try simp only [Act.put, nq1, nq2, nq3, nq4, nq5, nq6])
  (refine wpX_pure (v := ?_) rfl rfl ?_ ?_; rotate_left; (intro wx; go_simp; try go_bits) <;> (with_reducible rfl)); (try simp only [Act.put, nq1, nq2, nq3, nq4, nq5, nq6])
  refine wpX_loadP rfl rfl rfl rfl HS.out (.tail _ (.tail _ (.head _))) rowE (.q0 (EA.arr ‹_›)) ?_; (try simp only [Act.put, nq1, nq2, nq3, nq4, nq5, nq6])
  refine wpX_callF rfl rfl rfl en52_pl rfl (fun x => subA x ‹_› ‹_›) ?_; rintro xw e wy ⟨z, hz, rfl, hb⟩; refine ⟨_, rfl, hb, ?_⟩; (try simp only [Act.put, nq1, nq2, nq3, nq4, nq5, nq6])
  refine wpX_callF rfl rfl rfl en52_pl rfl (fun x => subA x ‹_› ‹_›) ?_; rintro xw e wy ⟨z, hz, rfl, hb⟩; refine ⟨_, rfl, hb, ?_⟩; (try simp only [Act.put, nq1, nq2, nq3, nq4, nq5, nq6])
  refine wpX_callF rfl rfl rfl en36_pl rfl (fun x => mulA x ‹_› ‹_›) ?_; rintro xw e wy ⟨z, hz, rfl, hb⟩; refine ⟨_, rfl, hb, ?_⟩; (try simp only [Act.put, nq1, nq2, nq3, nq4, nq5, nq6])
  refine wpX_nil ?_; intro G xz hx0 hx hF; have hS9 := HS.out.floats hx0 hF _ (by decide) (fun _ h => h); simp only [List.map_cons, List.map_nil, List.cons_append, List.nil_append] at hS9; have HS := hide hS9; have HX := hide hx0; have HG := hide hF.at_; clear hS9 hF hx0 hx; simp only [putsE, List.foldl_cons, List.foldl_nil]; (try simp only [Act.put, nq1, nq2, nq3, nq4, nq5, nq6])
  refine wpS_storeF rfl rfl rfl rfl rfl HS.out HX.out (HG.out 11 (by simp)).1 rowE (.head) (by first | exact EA.arr ‹_› | exact arr_zE) (by first | exact EA.arr ‹_› | exact arr_zE) ?_; intro wz hS9 hX9; have HS := hide hS9; have HX := hide hX9; clear hS9 hX9; (try simp only [Act.put, nq1, nq2, nq3, nq4, nq5, nq6])
  refine wpS_nil ?_
  go_wp2_with fail
  have HS := hide HS.out.drew
  refine wp_region_XE [(11, 8)] [(0, 1), (1, 0), (2, 1), (3, 0), (5, 1), (6, 0), (7, 1), (8, 0), (4, 2), (9, 2), (10, 2)] (.op 12 2 (.nil)) zE 27 (by kernel_rfl) (by kernel_rfl) (by kernel_rfl) (by intro p hp; simp only [List.mem_cons, List.not_mem_nil, or_false] at hp; subst hp <;> exact flOp_of rfl rfl rfl (fun ev x => run_allocR rfl newE ev x)) (fun _ _ _ _ h => h) ?_
  (refine wpX_pure (v := ?_) rfl rfl ?_ ?_; rotate_left; (intro wx; go_simp; try go_bits) <;> (with_reducible rfl)); (try simp only [Act.put, nq1, nq2, nq3, nq4, nq5, nq6])
  refine wpX_loadP rfl rfl rfl rfl HS.out (.tail _ (.tail _ (.tail _ (.tail _ (.head _))))) rowE (.q1 (EA.arr ‹_›) (EA.arr ‹_›)) ?_; (try simp only [Act.put, nq1, nq2, nq3, nq4, nq5, nq6])
  (refine wpX_pure (v := ?_) rfl rfl ?_ ?_; rotate_left; (intro wx; go_simp; try go_bits) <;> (with_reducible rfl)); (try simp only [Act.put, nq1, nq2, nq3, nq4, nq5, nq6])
  refine wpX_loadP rfl rfl rfl rfl HS.out (.tail _ (.tail _ (.tail _ (.tail _ (.head _))))) rowE (.q0 (EA.arr ‹_›)) ?_; (try simp only [Act.put, nq1, nq2, nq3, nq4, nq5, nq6])
  (refine wpX_pure (v := ?_) rfl rfl ?_ ?_; rotate_left; (intro wx; go_simp; try go_bits) <;> (with_reducible rfl)); (try simp only [Act.put, nq1, nq2, nq3, nq4, nq5, nq6])
  refine wpX_loadP rfl rfl rfl rfl HS.out (.tail _ (.tail _ (.tail _ (.head _)))) rowE (.q1 (EA.arr ‹_›) (EA.arr ‹_›)) ?_; (try simp only [Act.put, nq1, nq2, nq3, nq4, nq5, nq6])
  (refine wpX_pure (v := ?_) rfl rfl ?_ ?_; rotate_left; (intro wx; go_simp; try go_bits) <;> (with_reducible rfl)); (try simp only [Act.put, nq1, nq2, nq3, nq4, nq5, nq6])
  refine wpX_loadP rfl rfl rfl rfl HS.out (.tail _ (.tail _ (.tail _ (.head _)))) rowE (.q0 (EA.arr ‹_›)) ?_; (try simp only [Act.put, nq1, nq2, nq3, nq4, nq5, nq6])
  refine wpX_callF rfl rfl rfl en53_pl rfl (fun x => addA x ‹_› ‹_›) ?_; rintro xw e wy ⟨z, hz, rfl, hb⟩; refine ⟨_, rfl, hb, ?_⟩; (try simp only [Act.put, nq1, nq2, nq3, nq4, nq5, nq6])
  refine wpX_callF rfl rfl rfl en53_pl rfl (fun x => addA x ‹_› ‹_›) ?_; rintro xw e wy ⟨z, hz, rfl, hb⟩; refine ⟨_, rfl, hb, ?_⟩; (try simp only [Act.put, nq1, nq2, nq3, nq4, nq5, nq6])
  refine wpX_callF rfl rfl rfl en36_pl rfl (fun x => mulA x ‹_› ‹_›) ?_; rintro xw e wy ⟨z, hz, rfl, hb⟩; refine ⟨_, rfl, hb, ?_⟩; (try simp only [Act.put, nq1, nq2, nq3, nq4, nq5, nq6])
  refine wpX_nil ?_; intro G xz hx0 hx hF; have hS9 := HS.out.floats hx0 hF _ (by decide) (fun _ h => h); simp only [List.map_cons, List.map_nil, List.cons_append, List.nil_append] at hS9; have HS := hide hS9; have HX := hide hx0; have HG := hide hF.at_; clear hS9 hF hx0 hx; simp only [putsE, List.foldl_cons, List.foldl_nil]; (try simp only [Act.put, nq1, nq2, nq3, nq4, nq5, nq6])
  refine wpS_storeF rfl rfl rfl rfl rfl HS.out HX.out (HG.out 11 (by simp)).1 rowE (.head) (by first | exact EA.arr ‹_› | exact arr_zE) (by first | exact EA.arr ‹_› | exact arr_zE) ?_; intro wz hS9 hX9; have HS := hide hS9; have HX := hide hX9; clear hS9 hX9; (try simp only [Act.put, nq1, nq2, nq3, nq4, nq5, nq6])
  refine wpS_nil ?_
  go_wp2_with fail
  have HS := hide HS.out.drew
  refine wp_region_XE [(7, 9)] [(0, 1), (1, 0), (2, 1), (3, 0), (5, 0), (4, 2), (6, 2)] (.op 8 2 (.nil)) zE 27 (by kernel_rfl) (by kernel_rfl) (by kernel_rfl) (by intro p hp; simp only [List.mem_cons, List.not_mem_nil, or_false] at hp; subst hp <;> exact flOp_of rfl rfl rfl (fun ev x => run_allocR rfl newE ev x)) (fun _ _ _ _ h => h) ?_
  (refine wpX_pure (v := ?_) rfl rfl ?_ ?_; rotate_left; (intro wx; go_simp; try go_bits) <;> (with_reducible rfl)); (try simp only [Act.put, nq1, nq2, nq3, nq4, nq5, nq6])
  refine wpX_loadP rfl rfl rfl rfl HS.out (.tail _ (.tail _ (.tail _ (.tail _ (.tail _ (.head _)))))) rowE (.q3 (EA.arr ‹_›) (EA.arr ‹_›) (EA.arr ‹_›) (EA.arr ‹_›)) ?_; (try simp only [Act.put, nq1, nq2, nq3, nq4, nq5, nq6])
  (refine wpX_pure (v := ?_) rfl rfl ?_ ?_; rotate_left; (intro wx; go_simp; try go_bits) <;> (with_reducible rfl)); (try simp only [Act.put, nq1, nq2, nq3, nq4, nq5, nq6])
  refine wpX_loadP rfl rfl rfl rfl HS.out (.tail _ (.tail _ (.tail _ (.tail _ (.head _))))) rowE (.q3 (EA.arr ‹_›) (EA.arr ‹_›) (EA.arr ‹_›) (EA.arr ‹_›)) ?_; (try simp only [Act.put, nq1, nq2, nq3, nq4, nq5, nq6])
  refine wpX_loadP rfl rfl rfl rfl HS.out (.tail _ (.tail _ (.tail _ (.head _)))) rowE (.all (by first | exact EA.arr ‹_› | exact arr_zE)) ?_; (try simp only [Act.put, nq1, nq2, nq3, nq4, nq5, nq6])
  refine wpX_callF rfl rfl rfl en36_pl rfl (fun x => mulA x ‹_› ‹_›) ?_; rintro xw e wy ⟨z, hz, rfl, hb⟩; refine ⟨_, rfl, hb, ?_⟩; (try simp only [Act.put, nq1, nq2, nq3, nq4, nq5, nq6])
  refine wpX_callF rfl rfl rfl en36_pl rfl (fun x => mulA x ‹_› ‹_›) ?_; rintro xw e wy ⟨z, hz, rfl, hb⟩; refine ⟨_, rfl, hb, ?_⟩; (try simp only [Act.put, nq1, nq2, nq3, nq4, nq5, nq6])
  refine wpX_nil ?_; intro G xz hx0 hx hF; have hS9 := HS.out.floats hx0 hF _ (by decide) (fun _ h => h); simp only [List.map_cons, List.map_nil, List.cons_append, List.nil_append] at hS9; have HS := hide hS9; have HX := hide hx0; have HG := hide hF.at_; clear hS9 hF hx0 hx; simp only [putsE, List.foldl_cons, List.foldl_nil]; (try simp only [Act.put, nq1, nq2, nq3, nq4, nq5, nq6])
  refine wpS_storeF rfl rfl rfl rfl rfl HS.out HX.out (HG.out 7 (by simp)).1 rowE (.head) (by first | exact EA.arr ‹_› | exact arr_zE) (by first | exact EA.arr ‹_› | exact arr_zE) ?_; intro wz hS9 hX9; have HS := hide hS9; have HX := hide hX9; clear hS9 hX9; (try simp only [Act.put, nq1, nq2, nq3, nq4, nq5, nq6])
  refine wpS_nil ?_
  go_wp2_with (first | (go_at_call 36; (with_reducible refine (mulA _ (by assumption) (by assumption)).mono ?_); rintro e wy ⟨z, hz, rfl, hb⟩; try have HS := hide (HS.out.call hb)) | (go_at_call 53; (with_reducible refine (addA _ (by assumption) (by assumption)).mono ?_); rintro e wy ⟨z, hz, rfl, hb⟩; try have HS := hide (HS.out.call hb)) | (go_at_call 52; (with_reducible refine (subA _ (by assumption) (by assumption)).mono ?_); rintro e wy ⟨z, hz, rfl, hb⟩; try have HS := hide (HS.out.call hb)) | (go_at_call 45; (with_reducible refine (negA _ (by assumption)).mono ?_); rintro e wy ⟨z, hz, rfl, hb⟩; try have HS := hide (HS.out.call hb)) | (go_at_call 35; (with_reducible refine (invA _ (by assumption)).mono ?_); rintro e wy ⟨z, hz, rfl, hb⟩; try have HS := hide (HS.out.call hb)) | (refine wl_loadP rfl rfl rfl HS.out (by (repeat first | exact .head _ | apply List.Mem.tail)) (by first | exact rowE | exact rowP | exact rowN | exact rowQ) (by (first | exact .q0 (EA.arr ‹_›) | exact .q1 (EA.arr ‹_›) (EA.arr ‹_›) | exact .q2 (EA.arr ‹_›) (EA.arr ‹_›) (EA.arr ‹_›) | exact .q3 (EA.arr ‹_›) (EA.arr ‹_›) (EA.arr ‹_›) (EA.arr ‹_›) | exact .q0 (NA.arr ‹_›) | exact .q1 (NA.arr ‹_›) (NA.arr ‹_›) | exact .q2 (NA.arr ‹_›) (NA.arr ‹_›) (NA.arr ‹_›) | exact .q3 (NA.arr ‹_›) (NA.arr ‹_›) (NA.arr ‹_›) (NA.arr ‹_›) | exact .all (by (first | exact EA.arr ‹_› | exact NA.arr ‹_› | exact arr_zE | exact arr_zN | exact arr_zP | exact arr_zQ | exact PtN.arr ‹_› | exact PtV.arr ‹_› | exact QtN.arr ‹_› | exact qE ‹_› ‹_› ‹_› ‹_› | exact qN ‹_› ‹_› ‹_› ‹_›)))) ?_; (try simp only [Act.put, nq1, nq2, nq3, nq4, nq5, nq6])) | (refine wl_storeR rfl rfl rfl rfl HS.out (by first | exact rowE | exact rowP | exact rowN | exact rowQ) (by (repeat first | exact .head | apply Upd.tail)) (by (first | exact EA.arr ‹_› | exact NA.arr ‹_› | exact arr_zE | exact arr_zN | exact arr_zP | exact arr_zQ | exact PtN.arr ‹_› | exact PtV.arr ‹_› | exact QtN.arr ‹_› | exact qE ‹_› ‹_› ‹_› ‹_› | exact qN ‹_› ‹_› ‹_› ‹_›)) (by (first | exact EA.arr ‹_› | exact NA.arr ‹_› | exact arr_zE | exact arr_zN | exact arr_zP | exact arr_zQ | exact PtN.arr ‹_› | exact PtV.arr ‹_› | exact QtN.arr ‹_› | exact qE ‹_› ‹_› ‹_› ‹_› | exact qN ‹_› ‹_› ‹_› ‹_›)) ?_; intro wz hS9; have HS := hide hS9; clear hS9; (try simp only [Act.put, nq1, nq2, nq3, nq4, nq5, nq6])) | (refine wl_allocR rfl rfl HS.out (by first | exact newE | exact newP | exact newN | exact newQ) ?_; intro gz wz hS9; have HS := hide hS9; clear hS9; (try simp only [Act.put, nq1, nq2, nq3, nq4, nq5, nq6])) | (refine wl_boxR rfl rfl rfl HS.out ?_; intro gz wz hS9; have HS := hide hS9; clear hS9; (try simp only [Act.put, nq1, nq2, nq3, nq4, nq5, nq6])))
  have HS := hide HS.out.drew
  refine wp_region_XE [(12, 11), (13, 12), (14, 13), (15, 14)] [(0, 0), (1, 0), (3, 0), (4, 0), (6, 0), (7, 0), (9, 0), (10, 0), (2, 2), (5, 2), (8, 2), (11, 2)] (.op 16 2 (.op 17 2 (.op 18 2 (.op 19 2 (.nil))))) zE 27 (by kernel_rfl) (by kernel_rfl) (by kernel_rfl) (by intro p hp; simp only [List.mem_cons, List.not_mem_nil, or_false] at hp; rcases hp with rfl | rfl | rfl | rfl <;> exact flOp_of rfl rfl rfl (fun ev x => run_allocR rfl newE ev x)) (fun _ _ _ _ h => h) ?_
  refine wpX_loadP rfl rfl rfl rfl HS.out (.tail _ (.tail _ (.head _))) rowE (.all (by first | exact EA.arr ‹_› | exact arr_zE)) ?_; (try simp only [Act.put, nq1, nq2, nq3, nq4, nq5, nq6])
  refine wpX_loadP rfl rfl rfl rfl HS.out (.tail _ (.tail _ (.tail _ (.head _)))) rowE (.all (by first | exact EA.arr ‹_› | exact arr_zE)) ?_; (try simp only [Act.put, nq1, nq2, nq3, nq4, nq5, nq6])
  refine wpX_loadP rfl rfl rfl rfl HS.out (.head _) rowE (.all (by first | exact EA.arr ‹_› | exact arr_zE)) ?_; (try simp only [Act.put, nq1, nq2, nq3, nq4, nq5, nq6])
  refine wpX_loadP rfl rfl rfl rfl HS.out (.tail _ (.head _)) rowE (.all (by first | exact EA.arr ‹_› | exact arr_zE)) ?_; (try simp only [Act.put, nq1, nq2, nq3, nq4, nq5, nq6])
  refine wpX_loadP rfl rfl rfl rfl HS.out (.head _) rowE (.all (by first | exact EA.arr ‹_› | exact arr_zE)) ?_; (try simp only [Act.put, nq1, nq2, nq3, nq4, nq5, nq6])
  refine wpX_loadP rfl rfl rfl rfl HS.out (.tail _ (.head _)) rowE (.all (by first | exact EA.arr ‹_› | exact arr_zE)) ?_; (try simp only [Act.put, nq1, nq2, nq3, nq4, nq5, nq6])
  refine wpX_loadP rfl rfl rfl rfl HS.out (.tail _ (.tail _ (.head _))) rowE (.all (by first | exact EA.arr ‹_› | exact arr_zE)) ?_; (try simp only [Act.put, nq1, nq2, nq3, nq4, nq5, nq6])
  refine wpX_loadP rfl rfl rfl rfl HS.out (.tail _ (.tail _ (.tail _ (.head _)))) rowE (.all (by first | exact EA.arr ‹_› | exact arr_zE)) ?_; (try simp only [Act.put, nq1, nq2, nq3, nq4, nq5, nq6])
  refine wpX_callF rfl rfl rfl en52_pl rfl (fun x => subA x ‹_› ‹_›) ?_; rintro xw e wy ⟨z, hz, rfl, hb⟩; refine ⟨_, rfl, hb, ?_⟩; (try simp only [Act.put, nq1, nq2, nq3, nq4, nq5, nq6])
  refine wpX_callF rfl rfl rfl en52_pl rfl (fun x => subA x ‹_› ‹_›) ?_; rintro xw e wy ⟨z, hz, rfl, hb⟩; refine ⟨_, rfl, hb, ?_⟩; (try simp only [Act.put, nq1, nq2, nq3, nq4, nq5, nq6])
  refine wpX_callF rfl rfl rfl en53_pl rfl (fun x => addA x ‹_› ‹_›) ?_; rintro xw e wy ⟨z, hz, rfl, hb⟩; refine ⟨_, rfl, hb, ?_⟩; (try simp only [Act.put, nq1, nq2, nq3, nq4, nq5, nq6])
  refine wpX_callF rfl rfl rfl en53_pl rfl (fun x => addA x ‹_› ‹_›) ?_; rintro xw e wy ⟨z, hz, rfl, hb⟩; refine ⟨_, rfl, hb, ?_⟩; (try simp only [Act.put, nq1, nq2, nq3, nq4, nq5, nq6])
  refine wpX_nil ?_; intro G xz hx0 hx hF; have hS9 := HS.out.floats hx0 hF _ (by decide) (fun _ h => h); simp only [List.map_cons, List.map_nil, List.cons_append, List.nil_append] at hS9; have HS := hide hS9; have HX := hide hx0; have HG := hide hF.at_; clear hS9 hF hx0 hx; simp only [putsE, List.foldl_cons, List.foldl_nil]; (try simp only [Act.put, nq1, nq2, nq3, nq4, nq5, nq6])
  refine wpS_storeF rfl rfl rfl rfl rfl HS.out HX.out (HG.out 12 (by simp)).1 rowE (.head) (by first | exact EA.arr ‹_› | exact arr_zE) (by first | exact EA.arr ‹_› | exact arr_zE) ?_; intro wz hS9 hX9; have HS := hide hS9; have HX := hide hX9; clear hS9 hX9; (try simp only [Act.put, nq1, nq2, nq3, nq4, nq5, nq6])
  refine wpS_storeF rfl rfl rfl rfl rfl HS.out HX.out (HG.out 13 (by simp)).1 rowE (.tail (.head)) (by first | exact EA.arr ‹_› | exact arr_zE) (by first | exact EA.arr ‹_› | exact arr_zE) ?_; intro wz hS9 hX9; have HS := hide hS9; have HX := hide hX9; clear hS9 hX9; (try simp only [Act.put, nq1, nq2, nq3, nq4, nq5, nq6])
  refine wpS_storeF rfl rfl rfl rfl rfl HS.out HX.out (HG.out 14 (by simp)).1 rowE (.tail (.tail (.head))) (by first | exact EA.arr ‹_› | exact arr_zE) (by first | exact EA.arr ‹_› | exact arr_zE) ?_; intro wz hS9 hX9; have HS := hide hS9; have HX := hide hX9; clear hS9 hX9; (try simp only [Act.put, nq1, nq2, nq3, nq4, nq5, nq6])
  refine wpS_storeF rfl rfl rfl rfl rfl HS.out HX.out (HG.out 15 (by simp)).1 rowE (.tail (.tail (.tail (.head)))) (by first | exact EA.arr ‹_› | exact arr_zE) (by first | exact EA.arr ‹_› | exact arr_zE) ?_; intro wz hS9 hX9; have HS := hide hS9; have HX := hide hX9; clear hS9 hX9; (try simp only [Act.put, nq1, nq2, nq3, nq4, nq5, nq6])
  refine wpS_nil ?_
  go_wp2_with fail
  have HS := hide HS.out.drew
  refine wp_region_T [(0, 0), (1, 0), (3, 0), (4, 0), (6, 0), (7, 0), (9, 0), (10, 0), (2, 2), (5, 2), (8, 2), (11, 2), (12, 1), (13, 3)] (by kernel_rfl) (by kernel_rfl) (fun _ _ _ _ h => h) ?_
  refine wpT_loadP rfl rfl rfl rfl HS.out (.head _) rowE (.all (by first | exact EA.arr ‹_› | exact arr_zE)) ?_; (try simp only [Act.put, nq1, nq2, nq3, nq4, nq5, nq6])
  refine wpT_loadP rfl rfl rfl rfl HS.out (.tail _ (.head _)) rowE (.all (by first | exact EA.arr ‹_› | exact arr_zE)) ?_; (try simp only [Act.put, nq1, nq2, nq3, nq4, nq5, nq6])
  refine wpT_loadP rfl rfl rfl rfl HS.out (.tail _ (.tail _ (.head _))) rowE (.all (by first | exact EA.arr ‹_› | exact arr_zE)) ?_; (try simp only [Act.put, nq1, nq2, nq3, nq4, nq5, nq6])
  refine wpT_loadP rfl rfl rfl rfl HS.out (.tail _ (.tail _ (.tail _ (.head _)))) rowE (.all (by first | exact EA.arr ‹_› | exact arr_zE)) ?_; (try simp only [Act.put, nq1, nq2, nq3, nq4, nq5, nq6])
  refine wpT_loadP rfl rfl rfl rfl HS.out (.tail _ (.head _)) rowE (.all (by first | exact EA.arr ‹_› | exact arr_zE)) ?_; (try simp only [Act.put, nq1, nq2, nq3, nq4, nq5, nq6])
  refine wpT_loadP rfl rfl rfl rfl HS.out (.tail _ (.tail _ (.head _))) rowE (.all (by first | exact EA.arr ‹_› | exact arr_zE)) ?_; (try simp only [Act.put, nq1, nq2, nq3, nq4, nq5, nq6])
  refine wpT_loadP rfl rfl rfl rfl HS.out (.head _) rowE (.all (by first | exact EA.arr ‹_› | exact arr_zE)) ?_; (try simp only [Act.put, nq1, nq2, nq3, nq4, nq5, nq6])
  refine wpT_loadP rfl rfl rfl rfl HS.out (.tail _ (.tail _ (.tail _ (.head _)))) rowE (.all (by first | exact EA.arr ‹_› | exact arr_zE)) ?_; (try simp only [Act.put, nq1, nq2, nq3, nq4, nq5, nq6])
  refine wpT_callF rfl rfl rfl en36_pl rfl (mulA _ ‹_› ‹_›) ?_; rintro e wy ⟨z, hz, rfl, hb⟩; refine ⟨_, rfl, hb, ?_⟩; have HS := hide (HS.out.call hb); (try simp only [Act.put, nq1, nq2, nq3, nq4, nq5, nq6])
  refine wpT_callF rfl rfl rfl en36_pl rfl (mulA _ ‹_› ‹_›) ?_; rintro e wy ⟨z, hz, rfl, hb⟩; refine ⟨_, rfl, hb, ?_⟩; have HS := hide (HS.out.call hb); (try simp only [Act.put, nq1, nq2, nq3, nq4, nq5, nq6])
  refine wpT_callF rfl rfl rfl en36_pl rfl (mulA _ ‹_› ‹_›) ?_; rintro e wy ⟨z, hz, rfl, hb⟩; refine ⟨_, rfl, hb, ?_⟩; have HS := hide (HS.out.call hb); (try simp only [Act.put, nq1, nq2, nq3, nq4, nq5, nq6])
  refine wpT_callF rfl rfl rfl en36_pl rfl (mulA _ ‹_› ‹_›) ?_; rintro e wy ⟨z, hz, rfl, hb⟩; refine ⟨_, rfl, hb, ?_⟩; have HS := hide (HS.out.call hb); (try simp only [Act.put, nq1, nq2, nq3, nq4, nq5, nq6])
  refine wpT_pure rfl rfl (fun x => run_build4 rfl rfl rfl rfl rfl buildP (exE ‹_›) (exE ‹_›) (exE ‹_›) (exE ‹_›) x) ?_; (try simp only [Act.put, nq1, nq2, nq3, nq4, nq5, nq6])
  refine wpT_late rfl rfl ?_; intro K hK; refine wp_storeR rfl rfl rfl HS.out rowP (.tail (.tail (.tail (.tail (.tail (.tail (.tail (.tail (.head))))))))) (by first | exact arr_zP | exact PtN.arr ‹_› | exact PtV.arr ‹_› | exact qE ‹_› ‹_› ‹_› ‹_›) (by first | exact arr_zP | exact PtN.arr ‹_› | exact PtV.arr ‹_› | exact qE ‹_› ‹_› ‹_› ‹_›) ?_; intro wz hS9; have HS := hide hS9; clear hS9; refine hK _ _ ?_; (try simp only [Act.put, nq1, nq2, nq3, nq4, nq5, nq6])
  refine wpT_nil ?_
  go_wp2_with fail
  refine bodyPost_ret (results_cell_row rfl _ _ _ _ _ _ _ rfl (HS.out.heapM (by (repeat first | exact .head _ | apply List.Mem.tail))) Tryd.underlying29 rfl (by first | (rw [(EA.arr ‹_›).size]; kernel_rfl) | (rw [(NA.arr ‹_›).size]; kernel_rfl) | (rw [(qE ‹_› ‹_› ‹_› ‹_›).size]; kernel_rfl) | (rw [(qN ‹_› ‹_› ‹_› ‹_›).size]; kernel_rfl) | (rw [(PtN.arr ‹_›).size]; kernel_rfl) | (rw [(PtV.arr ‹_›).size]; kernel_rfl) | (rw [(QtN.arr ‹_›).size]; kernel_rfl))) rfl ?_
  refine ⟨_, _, _, _, ?_, ?_, ?_, ?_, rfl, HS.out.below⟩ <;> assumption
end Go.Proofs.YtgahjjdbpjgemaaDoor

/-
  Layer 4: the code's points: a point itself, Zero, Base, a sum, a point turned about.
-/
namespace Go.Proofs.YtgahjjdbpjgemaaDoor
open Go.RowKit
set_option linter.unusedSimpArgs false

/-- Four elements that stand for a point. -/
structure PtN (v : Array Value) (P : Ed) : Prop where
  ex : ∃ A a b c d, v = quad a b c d ∧ EA a A.X ∧ EA b A.Y ∧ EA c A.Z ∧ EA d A.T ∧ Rp A P
/-- The same, or the zero value, which is taken as Zero. -/
structure PtV (v : Array Value) (P : Ed) : Prop where
  ex : ∃ A a b c d, v = quad a b c d ∧ EA a A.X ∧ EA b A.Y ∧ EA c A.Z ∧ EA d A.T ∧ (Rp A P ∨ (A.Z = 0 ∧ P = .zero))
theorem PtN.v {v : Array Value} {P : Ed} (h : PtN v P) : PtV v P := by
  obtain ⟨A, a, b, c, d, h1, h2, h3, h4, h5, h6⟩ := h.ex
  exact ⟨A, a, b, c, d, h1, h2, h3, h4, h5, .inl h6⟩
theorem PtV.arr {v : Array Value} {P : Ed} (h : PtV v P) : Arr 20 v := by
  obtain ⟨A, a, b, c, d, rfl, h2, h3, h4, h5, _⟩ := h.ex
  exact quad_arr h2.arr h3.arr h4.arr h5.arr rfl
theorem PtN.arr {v : Array Value} {P : Ed} (h : PtN v P) : Arr 20 v := h.v.arr
def ResV (w : World) (P : Ed) (e : Ending) (w' : World) : Prop := ∃ v, PtN v P ∧ e = .returned (.agg v) ∧ Below w.heap.size w w'
theorem ResP.v {w : World} {A : Pj} {P : Ed} {e : Ending} {w' : World} (h : ResP w A e w') (hr : Rp A P) : ResV w P e w' := by
  obtain ⟨a, b, c, d, h1, h2, h3, h4, h5, h6⟩ := h
  exact ⟨_, ⟨A, a, b, c, d, rfl, h1, h2, h3, h4, hr⟩, h5, h6⟩
theorem plusP {u v k : Array Value} {P Q : Ed} (w : World) (hu : PtN u P) (hv : PtN v Q) (hk : EA k dF) : Calls Tryd.prog 31 #[.agg u, .agg v, .agg k] w (ResV w (P.add Q)) := by
  obtain ⟨⟨X, Y, Z, T⟩, a, b, c, d, rfl, h1, h2, h3, h4, h5⟩ := hu.ex
  obtain ⟨⟨X', Y', Z', T'⟩, a', b', c', d', rfl, g1, g2, g3, g4, g5⟩ := hv.ex
  exact (plus_any w h1 h2 h3 h4 g1 g2 g3 g4 hk).mono fun e w' h => h.v (rp_plus h5 g5)
set_option maxRecDepth 100000 in
set_option maxHeartbeats 1600000 in
theorem zeroP (w : World) : Calls Tryd.prog 23 #[] w (ResV w .zero) := by
  have hz0 := ea_zero
  have HS := hide (St.init w NoB)
  go_enter Tryd.func23, Tryd.ntmps23
  go_wp2_with (first | (go_at_call 48; (with_reducible refine (small1A _).mono ?_); rintro e wy ⟨z, hz, rfl, hb⟩; try have HS := hide (HS.out.call hb)) | (go_at_call 28; (with_reducible refine (at_any _ (by assumption) (by assumption)).mono ?_); rintro e wy ⟨qa, qb, qc, qd, hqa, hqb, hqc, hqd, rfl, hb⟩; have HS := hide (HS.out.call hb)) | (refine wl_loadP rfl rfl rfl HS.out (by (repeat first | exact .head _ | apply List.Mem.tail)) (by first | exact rowE | exact rowP | exact rowN | exact rowQ) (by (first | exact .q0 (EA.arr ‹_›) | exact .q1 (EA.arr ‹_›) (EA.arr ‹_›) | exact .q2 (EA.arr ‹_›) (EA.arr ‹_›) (EA.arr ‹_›) | exact .q3 (EA.arr ‹_›) (EA.arr ‹_›) (EA.arr ‹_›) (EA.arr ‹_›) | exact .q0 (NA.arr ‹_›) | exact .q1 (NA.arr ‹_›) (NA.arr ‹_›) | exact .q2 (NA.arr ‹_›) (NA.arr ‹_›) (NA.arr ‹_›) | exact .q3 (NA.arr ‹_›) (NA.arr ‹_›) (NA.arr ‹_›) (NA.arr ‹_›) | exact .all (by (first | exact EA.arr ‹_› | exact NA.arr ‹_› | exact arr_zE | exact arr_zN | exact arr_zP | exact arr_zQ | exact PtN.arr ‹_› | exact PtV.arr ‹_› | exact QtN.arr ‹_› | exact qE ‹_› ‹_› ‹_› ‹_› | exact qN ‹_› ‹_› ‹_› ‹_›)))) ?_; (try simp only [Act.put, nq1, nq2, nq3, nq4, nq5, nq6])) | (refine wl_storeR rfl rfl rfl rfl HS.out (by first | exact rowE | exact rowP | exact rowN | exact rowQ) (by (repeat first | exact .head | apply Upd.tail)) (by (first | exact EA.arr ‹_› | exact NA.arr ‹_› | exact arr_zE | exact arr_zN | exact arr_zP | exact arr_zQ | exact PtN.arr ‹_› | exact PtV.arr ‹_› | exact QtN.arr ‹_› | exact qE ‹_› ‹_› ‹_› ‹_› | exact qN ‹_› ‹_› ‹_› ‹_›)) (by (first | exact EA.arr ‹_› | exact NA.arr ‹_› | exact arr_zE | exact arr_zN | exact arr_zP | exact arr_zQ | exact PtN.arr ‹_› | exact PtV.arr ‹_› | exact QtN.arr ‹_› | exact qE ‹_› ‹_› ‹_› ‹_› | exact qN ‹_› ‹_› ‹_› ‹_›)) ?_; intro wz hS9; have HS := hide hS9; clear hS9; (try simp only [Act.put, nq1, nq2, nq3, nq4, nq5, nq6])) | (refine wl_allocR rfl rfl HS.out (by first | exact newE | exact newP | exact newN | exact newQ) ?_; intro gz wz hS9; have HS := hide hS9; clear hS9; (try simp only [Act.put, nq1, nq2, nq3, nq4, nq5, nq6])) | (refine wl_boxR rfl rfl rfl HS.out ?_; intro gz wz hS9; have HS := hide hS9; clear hS9; (try simp only [Act.put, nq1, nq2, nq3, nq4, nq5, nq6])))
  refine bodyPost_ret (results_cell_row rfl _ _ _ _ _ _ _ rfl (HS.out.heapM (by (repeat first | exact .head _ | apply List.Mem.tail))) Tryd.underlying29 rfl (by first | (rw [(EA.arr ‹_›).size]; kernel_rfl) | (rw [(NA.arr ‹_›).size]; kernel_rfl) | (rw [(qE ‹_› ‹_› ‹_› ‹_›).size]; kernel_rfl) | (rw [(qN ‹_› ‹_› ‹_› ‹_›).size]; kernel_rfl) | (rw [(PtN.arr ‹_›).size]; kernel_rfl) | (rw [(PtV.arr ‹_›).size]; kernel_rfl) | (rw [(QtN.arr ‹_›).size]; kernel_rfl))) rfl ?_
  exact ⟨_, ⟨⟨_, _, _, _⟩, _, _, _, _, rfl, hqa, hqb, hqc, hqd, by rw [show ((0 : FK) * 1) = 0 from fl8 0]; exact rp_zero⟩, rfl, HS.out.below⟩
set_option maxRecDepth 100000 in
set_option maxHeartbeats 1600000 in
theorem baseP (w : World) : Calls Tryd.prog 10 #[] w (ResV w Bp) := by
  have HS := hide (St.init w NoB)
  go_enter Tryd.func10, Tryd.ntmps10
  go_wp2_with (first | (go_at_call 29; (with_reducible refine (numX _).mono ?_); rintro e wy ⟨z, hz, rfl, hb⟩; try have HS := hide (HS.out.call hb)) | (go_at_call 29; (with_reducible refine (numY _).mono ?_); rintro e wy ⟨z, hz, rfl, hb⟩; try have HS := hide (HS.out.call hb)) | (go_at_call 28; (with_reducible refine (at_any _ (by assumption) (by assumption)).mono ?_); rintro e wy ⟨qa, qb, qc, qd, hqa, hqb, hqc, hqd, rfl, hb⟩; have HS := hide (HS.out.call hb)) | (refine wl_loadP rfl rfl rfl HS.out (by (repeat first | exact .head _ | apply List.Mem.tail)) (by first | exact rowE | exact rowP | exact rowN | exact rowQ) (by (first | exact .q0 (EA.arr ‹_›) | exact .q1 (EA.arr ‹_›) (EA.arr ‹_›) | exact .q2 (EA.arr ‹_›) (EA.arr ‹_›) (EA.arr ‹_›) | exact .q3 (EA.arr ‹_›) (EA.arr ‹_›) (EA.arr ‹_›) (EA.arr ‹_›) | exact .q0 (NA.arr ‹_›) | exact .q1 (NA.arr ‹_›) (NA.arr ‹_›) | exact .q2 (NA.arr ‹_›) (NA.arr ‹_›) (NA.arr ‹_›) | exact .q3 (NA.arr ‹_›) (NA.arr ‹_›) (NA.arr ‹_›) (NA.arr ‹_›) | exact .all (by (first | exact EA.arr ‹_› | exact NA.arr ‹_› | exact arr_zE | exact arr_zN | exact arr_zP | exact arr_zQ | exact PtN.arr ‹_› | exact PtV.arr ‹_› | exact QtN.arr ‹_› | exact qE ‹_› ‹_› ‹_› ‹_› | exact qN ‹_› ‹_› ‹_› ‹_›)))) ?_; (try simp only [Act.put, nq1, nq2, nq3, nq4, nq5, nq6])) | (refine wl_storeR rfl rfl rfl rfl HS.out (by first | exact rowE | exact rowP | exact rowN | exact rowQ) (by (repeat first | exact .head | apply Upd.tail)) (by (first | exact EA.arr ‹_› | exact NA.arr ‹_› | exact arr_zE | exact arr_zN | exact arr_zP | exact arr_zQ | exact PtN.arr ‹_› | exact PtV.arr ‹_› | exact QtN.arr ‹_› | exact qE ‹_› ‹_› ‹_› ‹_› | exact qN ‹_› ‹_› ‹_› ‹_›)) (by (first | exact EA.arr ‹_› | exact NA.arr ‹_› | exact arr_zE | exact arr_zN | exact arr_zP | exact arr_zQ | exact PtN.arr ‹_› | exact PtV.arr ‹_› | exact QtN.arr ‹_› | exact qE ‹_› ‹_› ‹_› ‹_› | exact qN ‹_› ‹_› ‹_› ‹_›)) ?_; intro wz hS9; have HS := hide hS9; clear hS9; (try simp only [Act.put, nq1, nq2, nq3, nq4, nq5, nq6])) | (refine wl_allocR rfl rfl HS.out (by first | exact newE | exact newP | exact newN | exact newQ) ?_; intro gz wz hS9; have HS := hide hS9; clear hS9; (try simp only [Act.put, nq1, nq2, nq3, nq4, nq5, nq6])) | (refine wl_boxR rfl rfl rfl HS.out ?_; intro gz wz hS9; have HS := hide hS9; clear hS9; (try simp only [Act.put, nq1, nq2, nq3, nq4, nq5, nq6])))
  refine bodyPost_ret (results_cell_row rfl _ _ _ _ _ _ _ rfl (HS.out.heapM (by (repeat first | exact .head _ | apply List.Mem.tail))) Tryd.underlying29 rfl (by first | (rw [(EA.arr ‹_›).size]; kernel_rfl) | (rw [(NA.arr ‹_›).size]; kernel_rfl) | (rw [(qE ‹_› ‹_› ‹_› ‹_›).size]; kernel_rfl) | (rw [(qN ‹_› ‹_› ‹_› ‹_›).size]; kernel_rfl) | (rw [(PtN.arr ‹_›).size]; kernel_rfl) | (rw [(PtV.arr ‹_›).size]; kernel_rfl) | (rw [(QtN.arr ‹_›).size]; kernel_rfl))) rfl ?_
  exact ⟨_, ⟨⟨_, _, _, _⟩, _, _, _, _, rfl, hqa, hqb, hqc, hqd, rp_of Bp⟩, rfl, HS.out.below⟩
set_option maxRecDepth 100000 in
set_option maxHeartbeats 1600000 in
theorem wholeP {v : Array Value} {P : Ed} (w : World) (hv : PtV v P) : Calls Tryd.prog 30 #[.agg v] w (ResV w P) := by
  have hN := hv
  obtain ⟨⟨X, Y, Z, T⟩, a, b, c, d, rfl, h1, h2, h3, h4, h5⟩ := hv.ex
  have HS := hide (St.init w NoB)
  have HZ := hide (fun W => zeroP W)
  by_cases hz : Z = 0
  · have hP : P = .zero := by
      rcases h5 with h | h
      · exact absurd hz h.z
      · exact h.2
    subst hP
    have HC := hide (fun W => zeroA W h3)
    rw [decide_eq_true hz] at HC
    clear h5 hz
    go_enter Tryd.func30, Tryd.ntmps30
    go_wp2_with (first | (go_at_call 59; (with_reducible refine (HC.out _).mono ?_); rintro e wy ⟨rfl, hb⟩; have HS := hide (HS.out.call hb)) | (go_at_call 23; (with_reducible refine (HZ.out _).mono ?_); rintro e wy ⟨z, hz, rfl, hb⟩; try have HS := hide (HS.out.call hb)) | (refine wl_loadP rfl rfl rfl HS.out (by (repeat first | exact .head _ | apply List.Mem.tail)) (by first | exact rowE | exact rowP | exact rowN | exact rowQ) (by (first | exact .q0 (EA.arr ‹_›) | exact .q1 (EA.arr ‹_›) (EA.arr ‹_›) | exact .q2 (EA.arr ‹_›) (EA.arr ‹_›) (EA.arr ‹_›) | exact .q3 (EA.arr ‹_›) (EA.arr ‹_›) (EA.arr ‹_›) (EA.arr ‹_›) | exact .q0 (NA.arr ‹_›) | exact .q1 (NA.arr ‹_›) (NA.arr ‹_›) | exact .q2 (NA.arr ‹_›) (NA.arr ‹_›) (NA.arr ‹_›) | exact .q3 (NA.arr ‹_›) (NA.arr ‹_›) (NA.arr ‹_›) (NA.arr ‹_›) | exact .all (by (first | exact EA.arr ‹_› | exact NA.arr ‹_› | exact arr_zE | exact arr_zN | exact arr_zP | exact arr_zQ | exact PtN.arr ‹_› | exact PtV.arr ‹_› | exact QtN.arr ‹_› | exact qE ‹_› ‹_› ‹_› ‹_› | exact qN ‹_› ‹_› ‹_› ‹_›)))) ?_; (try simp only [Act.put, nq1, nq2, nq3, nq4, nq5, nq6])) | (refine wl_storeR rfl rfl rfl rfl HS.out (by first | exact rowE | exact rowP | exact rowN | exact rowQ) (by (repeat first | exact .head | apply Upd.tail)) (by (first | exact EA.arr ‹_› | exact NA.arr ‹_› | exact arr_zE | exact arr_zN | exact arr_zP | exact arr_zQ | exact PtN.arr ‹_› | exact PtV.arr ‹_› | exact QtN.arr ‹_› | exact qE ‹_› ‹_› ‹_› ‹_› | exact qN ‹_› ‹_› ‹_› ‹_›)) (by (first | exact EA.arr ‹_› | exact NA.arr ‹_› | exact arr_zE | exact arr_zN | exact arr_zP | exact arr_zQ | exact PtN.arr ‹_› | exact PtV.arr ‹_› | exact QtN.arr ‹_› | exact qE ‹_› ‹_› ‹_› ‹_› | exact qN ‹_› ‹_› ‹_› ‹_›)) ?_; intro wz hS9; have HS := hide hS9; clear hS9; (try simp only [Act.put, nq1, nq2, nq3, nq4, nq5, nq6])) | (refine wl_allocR rfl rfl HS.out (by first | exact newE | exact newP | exact newN | exact newQ) ?_; intro gz wz hS9; have HS := hide hS9; clear hS9; (try simp only [Act.put, nq1, nq2, nq3, nq4, nq5, nq6])) | (refine wl_boxR rfl rfl rfl HS.out ?_; intro gz wz hS9; have HS := hide hS9; clear hS9; (try simp only [Act.put, nq1, nq2, nq3, nq4, nq5, nq6])))
    refine bodyPost_ret (results_cell_row rfl _ _ _ _ _ _ _ rfl (HS.out.heapM (by (repeat first | exact .head _ | apply List.Mem.tail))) Tryd.underlying29 rfl (by first | (rw [(EA.arr ‹_›).size]; kernel_rfl) | (rw [(NA.arr ‹_›).size]; kernel_rfl) | (rw [(qE ‹_› ‹_› ‹_› ‹_›).size]; kernel_rfl) | (rw [(qN ‹_› ‹_› ‹_› ‹_›).size]; kernel_rfl) | (rw [(PtN.arr ‹_›).size]; kernel_rfl) | (rw [(PtV.arr ‹_›).size]; kernel_rfl) | (rw [(QtN.arr ‹_›).size]; kernel_rfl))) rfl ?_
    exact ⟨_, by assumption, rfl, HS.out.below⟩
  · have hr : Rp ⟨X, Y, Z, T⟩ P := by
      rcases h5 with h | h
      · exact h
      · exact absurd h.1 hz
    have HC := hide (fun W => zeroA W h3)
    rw [decide_eq_false hz] at HC
    clear h5
    go_enter Tryd.func30, Tryd.ntmps30
    go_wp2_with (first | (go_at_call 59; (with_reducible refine (HC.out _).mono ?_); rintro e wy ⟨rfl, hb⟩; have HS := hide (HS.out.call hb)) | (refine wl_loadP rfl rfl rfl HS.out (by (repeat first | exact .head _ | apply List.Mem.tail)) (by first | exact rowE | exact rowP | exact rowN | exact rowQ) (by (first | exact .q0 (EA.arr ‹_›) | exact .q1 (EA.arr ‹_›) (EA.arr ‹_›) | exact .q2 (EA.arr ‹_›) (EA.arr ‹_›) (EA.arr ‹_›) | exact .q3 (EA.arr ‹_›) (EA.arr ‹_›) (EA.arr ‹_›) (EA.arr ‹_›) | exact .q0 (NA.arr ‹_›) | exact .q1 (NA.arr ‹_›) (NA.arr ‹_›) | exact .q2 (NA.arr ‹_›) (NA.arr ‹_›) (NA.arr ‹_›) | exact .q3 (NA.arr ‹_›) (NA.arr ‹_›) (NA.arr ‹_›) (NA.arr ‹_›) | exact .all (by (first | exact EA.arr ‹_› | exact NA.arr ‹_› | exact arr_zE | exact arr_zN | exact arr_zP | exact arr_zQ | exact PtN.arr ‹_› | exact PtV.arr ‹_› | exact QtN.arr ‹_› | exact qE ‹_› ‹_› ‹_› ‹_› | exact qN ‹_› ‹_› ‹_› ‹_›)))) ?_; (try simp only [Act.put, nq1, nq2, nq3, nq4, nq5, nq6])) | (refine wl_storeR rfl rfl rfl rfl HS.out (by first | exact rowE | exact rowP | exact rowN | exact rowQ) (by (repeat first | exact .head | apply Upd.tail)) (by (first | exact EA.arr ‹_› | exact NA.arr ‹_› | exact arr_zE | exact arr_zN | exact arr_zP | exact arr_zQ | exact PtN.arr ‹_› | exact PtV.arr ‹_› | exact QtN.arr ‹_› | exact qE ‹_› ‹_› ‹_› ‹_› | exact qN ‹_› ‹_› ‹_› ‹_›)) (by (first | exact EA.arr ‹_› | exact NA.arr ‹_› | exact arr_zE | exact arr_zN | exact arr_zP | exact arr_zQ | exact PtN.arr ‹_› | exact PtV.arr ‹_› | exact QtN.arr ‹_› | exact qE ‹_› ‹_› ‹_› ‹_› | exact qN ‹_› ‹_› ‹_› ‹_›)) ?_; intro wz hS9; have HS := hide hS9; clear hS9; (try simp only [Act.put, nq1, nq2, nq3, nq4, nq5, nq6])) | (refine wl_allocR rfl rfl HS.out (by first | exact newE | exact newP | exact newN | exact newQ) ?_; intro gz wz hS9; have HS := hide hS9; clear hS9; (try simp only [Act.put, nq1, nq2, nq3, nq4, nq5, nq6])) | (refine wl_boxR rfl rfl rfl HS.out ?_; intro gz wz hS9; have HS := hide hS9; clear hS9; (try simp only [Act.put, nq1, nq2, nq3, nq4, nq5, nq6])))
    refine bodyPost_ret (results_cell_row rfl _ _ _ _ _ _ _ rfl (HS.out.heapM (by (repeat first | exact .head _ | apply List.Mem.tail))) Tryd.underlying29 rfl (by first | (rw [(EA.arr ‹_›).size]; kernel_rfl) | (rw [(NA.arr ‹_›).size]; kernel_rfl) | (rw [(qE ‹_› ‹_› ‹_› ‹_›).size]; kernel_rfl) | (rw [(qN ‹_› ‹_› ‹_› ‹_›).size]; kernel_rfl) | (rw [(PtN.arr ‹_›).size]; kernel_rfl) | (rw [(PtV.arr ‹_›).size]; kernel_rfl) | (rw [(QtN.arr ‹_›).size]; kernel_rfl))) rfl ?_
    exact ⟨_, ⟨⟨X, Y, Z, T⟩, _, _, _, _, rfl, h1, h2, h3, h4, hr⟩, rfl, HS.out.below⟩
theorem enWh (args : Array Value) (w : World) : (callFunc 30 args).run Tryd.prog w = .ok (.enter 30 args) w := by kernel_rfl
theorem en29_ad (args : Array Value) (w : World) : (callFunc 29 args).run Tryd.prog w = .ok (.enter 29 args) w := by kernel_rfl
theorem en31_ad (args : Array Value) (w : World) : (callFunc 31 args).run Tryd.prog w = .ok (.enter 31 args) w := by kernel_rfl
theorem en45_ng (args : Array Value) (w : World) : (callFunc 45 args).run Tryd.prog w = .ok (.enter 45 args) w := by kernel_rfl
set_option maxRecDepth 100000 in
set_option maxHeartbeats 1600000 in
theorem addP {u v : Array Value} {P Q : Ed} (w : World) (hu : PtV u P) (hv : PtV v Q) : Calls Tryd.prog 17 #[.agg u, .agg v] w (ResV w (P.add Q)) := by
  have HS := hide (St.init w NoB)
  go_enter Tryd.func17, Tryd.ntmps17
  go_wp2_with (first | (refine wl_loadP rfl rfl rfl HS.out (by (repeat first | exact .head _ | apply List.Mem.tail)) (by first | exact rowE | exact rowP | exact rowN | exact rowQ) (by (first | exact .q0 (EA.arr ‹_›) | exact .q1 (EA.arr ‹_›) (EA.arr ‹_›) | exact .q2 (EA.arr ‹_›) (EA.arr ‹_›) (EA.arr ‹_›) | exact .q3 (EA.arr ‹_›) (EA.arr ‹_›) (EA.arr ‹_›) (EA.arr ‹_›) | exact .q0 (NA.arr ‹_›) | exact .q1 (NA.arr ‹_›) (NA.arr ‹_›) | exact .q2 (NA.arr ‹_›) (NA.arr ‹_›) (NA.arr ‹_›) | exact .q3 (NA.arr ‹_›) (NA.arr ‹_›) (NA.arr ‹_›) (NA.arr ‹_›) | exact .all (by (first | exact EA.arr ‹_› | exact NA.arr ‹_› | exact arr_zE | exact arr_zN | exact arr_zP | exact arr_zQ | exact PtN.arr ‹_› | exact PtV.arr ‹_› | exact QtN.arr ‹_› | exact qE ‹_› ‹_› ‹_› ‹_› | exact qN ‹_› ‹_› ‹_› ‹_›)))) ?_; (try simp only [Act.put, nq1, nq2, nq3, nq4, nq5, nq6])) | (refine wl_storeR rfl rfl rfl rfl HS.out (by first | exact rowE | exact rowP | exact rowN | exact rowQ) (by (repeat first | exact .head | apply Upd.tail)) (by (first | exact EA.arr ‹_› | exact NA.arr ‹_› | exact arr_zE | exact arr_zN | exact arr_zP | exact arr_zQ | exact PtN.arr ‹_› | exact PtV.arr ‹_› | exact QtN.arr ‹_› | exact qE ‹_› ‹_› ‹_› ‹_› | exact qN ‹_› ‹_› ‹_› ‹_›)) (by (first | exact EA.arr ‹_› | exact NA.arr ‹_› | exact arr_zE | exact arr_zN | exact arr_zP | exact arr_zQ | exact PtN.arr ‹_› | exact PtV.arr ‹_› | exact QtN.arr ‹_› | exact qE ‹_› ‹_› ‹_› ‹_› | exact qN ‹_› ‹_› ‹_› ‹_›)) ?_; intro wz hS9; have HS := hide hS9; clear hS9; (try simp only [Act.put, nq1, nq2, nq3, nq4, nq5, nq6])) | (refine wl_allocR rfl rfl HS.out (by first | exact newE | exact newP | exact newN | exact newQ) ?_; intro gz wz hS9; have HS := hide hS9; clear hS9; (try simp only [Act.put, nq1, nq2, nq3, nq4, nq5, nq6])) | (refine wl_boxR rfl rfl rfl HS.out ?_; intro gz wz hS9; have HS := hide hS9; clear hS9; (try simp only [Act.put, nq1, nq2, nq3, nq4, nq5, nq6])))
  have HS := hide HS.out.drew
  have HX := hide (From.refl wz.drew)
  refine wp_region_S (.two 0 2 (.two 1 2 (.op 2 2 (.op 3 2 (.op 4 3 (.op 5 4 (.nil))))) (.op 1 2 (.op 3 2 (.op 4 3 (.op 5 4 (.nil)))))) (.op 0 2 (.op 1 2 (.op 3 2 (.op 4 3 (.op 5 4 (.nil))))))) (by kernel_rfl) (by kernel_rfl) (fun _ _ _ _ h => h) ?_
  refine wpS_two ?_ ?_
  · refine wpS_call rfl rfl ?_; intro K hK; refine wp_loadP rfl rfl HS.out (.tail _ (.tail _ (.head _))) (.all (by (first | exact EA.arr ‹_› | exact NA.arr ‹_› | exact arr_zE | exact arr_zN | exact arr_zP | exact arr_zQ | exact PtN.arr ‹_› | exact PtV.arr ‹_› | exact QtN.arr ‹_› | exact qE ‹_› ‹_› ‹_› ‹_› | exact qN ‹_› ‹_› ‹_› ‹_›))) rowP ?_; refine hK _ _ (fromT_mk HX.out ?_); (try simp only [Act.put, nq1, nq2, nq3, nq4, nq5, nq6])
    refine wpS_two ?_ ?_
    · refine wpS_call rfl rfl ?_; intro K hK; refine wp_call rfl enWh rfl (wholeP _ (by assumption)) ?_; rintro e wy ⟨z, hz, rfl, hb⟩; refine ⟨_, rfl, ?_⟩; have HS := hide (HS.out.call hb); have HX := hide (HX.out.trans (hb.mono HX.out.size)); refine hK _ _ (fromT_mk HX.out ?_); (try simp only [Act.put, nq1, nq2, nq3, nq4, nq5, nq6])
      refine wpS_call rfl rfl ?_; intro K hK; refine wp_loadP rfl rfl HS.out (.tail _ (.head _)) (.all (by (first | exact EA.arr ‹_› | exact NA.arr ‹_› | exact arr_zE | exact arr_zN | exact arr_zP | exact arr_zQ | exact PtN.arr ‹_› | exact PtV.arr ‹_› | exact QtN.arr ‹_› | exact qE ‹_› ‹_› ‹_› ‹_› | exact qN ‹_› ‹_› ‹_› ‹_›))) rowP ?_; refine hK _ _ (fromT_mk HX.out ?_); (try simp only [Act.put, nq1, nq2, nq3, nq4, nq5, nq6])
      refine wpS_call rfl rfl ?_; intro K hK; refine wp_call rfl enWh rfl (wholeP _ (by assumption)) ?_; rintro e wy ⟨z, hz, rfl, hb⟩; refine ⟨_, rfl, ?_⟩; have HS := hide (HS.out.call hb); have HX := hide (HX.out.trans (hb.mono HX.out.size)); refine hK _ _ (fromT_mk HX.out ?_); (try simp only [Act.put, nq1, nq2, nq3, nq4, nq5, nq6])
      refine wpS_late rfl rfl ?_; intro K hK; refine wp_storeR rfl rfl rfl HS.out rowP (.tail (.tail (.head))) (by (first | exact EA.arr ‹_› | exact NA.arr ‹_› | exact arr_zE | exact arr_zN | exact arr_zP | exact arr_zQ | exact PtN.arr ‹_› | exact PtV.arr ‹_› | exact QtN.arr ‹_› | exact qE ‹_› ‹_› ‹_› ‹_› | exact qN ‹_› ‹_› ‹_› ‹_›)) (by (first | exact EA.arr ‹_› | exact NA.arr ‹_› | exact arr_zE | exact arr_zN | exact arr_zP | exact arr_zQ | exact PtN.arr ‹_› | exact PtV.arr ‹_› | exact QtN.arr ‹_› | exact qE ‹_› ‹_› ‹_› ‹_› | exact qN ‹_› ‹_› ‹_› ‹_›)) ?_; intro wz hS9; have HS := hide hS9; clear hS9; refine hK _ _ ?_; (try simp only [Act.put, nq1, nq2, nq3, nq4, nq5, nq6])
      refine wpS_any rfl rfl ?_; intro K hK; refine wp_storeR rfl rfl rfl HS.out rowP (.tail (.head)) (by (first | exact EA.arr ‹_› | exact NA.arr ‹_› | exact arr_zE | exact arr_zN | exact arr_zP | exact arr_zQ | exact PtN.arr ‹_› | exact PtV.arr ‹_› | exact QtN.arr ‹_› | exact qE ‹_› ‹_› ‹_› ‹_› | exact qN ‹_› ‹_› ‹_› ‹_›)) (by (first | exact EA.arr ‹_› | exact NA.arr ‹_› | exact arr_zE | exact arr_zN | exact arr_zP | exact arr_zQ | exact PtN.arr ‹_› | exact PtV.arr ‹_› | exact QtN.arr ‹_› | exact qE ‹_› ‹_› ‹_› ‹_› | exact qN ‹_› ‹_› ‹_› ‹_›)) ?_; intro wz hS9; have HS := hide hS9; clear hS9; refine hK _ _ ?_; (try simp only [Act.put, nq1, nq2, nq3, nq4, nq5, nq6])
      refine wpS_nil ?_
      go_wp2_with fail
      have HS := hide HS.out.drew
      refine wp_region_T [(0, 0), (1, 0), (2, 2), (3, 2), (4, 3)] (by kernel_rfl) (by kernel_rfl) (fun _ _ _ _ h => h) ?_
      refine wpT_loadP rfl rfl rfl rfl HS.out (.tail _ (.tail _ (.head _))) rowP (.all (by first | exact arr_zP | exact PtN.arr ‹_› | exact PtV.arr ‹_› | exact qE ‹_› ‹_› ‹_› ‹_›)) ?_; (try simp only [Act.put, nq1, nq2, nq3, nq4, nq5, nq6])
      refine wpT_loadP rfl rfl rfl rfl HS.out (.tail _ (.head _)) rowP (.all (by first | exact arr_zP | exact PtN.arr ‹_› | exact PtV.arr ‹_› | exact qE ‹_› ‹_› ‹_› ‹_›)) ?_; (try simp only [Act.put, nq1, nq2, nq3, nq4, nq5, nq6])
      refine wpT_callF rfl rfl rfl en29_ad rfl (numD _) ?_; rintro e wy ⟨z, hz, rfl, hb⟩; refine ⟨_, rfl, hb, ?_⟩; have HS := hide (HS.out.call hb); (try simp only [Act.put, nq1, nq2, nq3, nq4, nq5, nq6])
      refine wpT_callF rfl rfl rfl en31_ad rfl (plusP _ (by assumption) (by assumption) (by assumption)) ?_; rintro e wy ⟨z, hz, rfl, hb⟩; refine ⟨_, rfl, hb, ?_⟩; have HS := hide (HS.out.call hb); (try simp only [Act.put, nq1, nq2, nq3, nq4, nq5, nq6])
      refine wpT_late rfl rfl ?_; intro K hK; refine wp_storeR rfl rfl rfl HS.out rowP (.head) (by first | exact arr_zP | exact PtN.arr ‹_› | exact PtV.arr ‹_› | exact qE ‹_› ‹_› ‹_› ‹_›) (by first | exact arr_zP | exact PtN.arr ‹_› | exact PtV.arr ‹_› | exact qE ‹_› ‹_› ‹_› ‹_›) ?_; intro wz hS9; have HS := hide hS9; clear hS9; refine hK _ _ ?_; (try simp only [Act.put, nq1, nq2, nq3, nq4, nq5, nq6])
      refine wpT_nil ?_
      go_wp2_with fail
      refine bodyPost_ret (results_cell_row rfl _ _ _ _ _ _ _ rfl (HS.out.heapM (by (repeat first | exact .head _ | apply List.Mem.tail))) Tryd.underlying29 rfl (by first | (rw [(EA.arr ‹_›).size]; kernel_rfl) | (rw [(NA.arr ‹_›).size]; kernel_rfl) | (rw [(qE ‹_› ‹_› ‹_› ‹_›).size]; kernel_rfl) | (rw [(qN ‹_› ‹_› ‹_› ‹_›).size]; kernel_rfl) | (rw [(PtN.arr ‹_›).size]; kernel_rfl) | (rw [(PtV.arr ‹_›).size]; kernel_rfl) | (rw [(QtN.arr ‹_›).size]; kernel_rfl))) rfl ?_
      exact ⟨_, by assumption, rfl, HS.out.below⟩
    · refine wpS_call rfl rfl ?_; intro K hK; refine wp_loadP rfl rfl HS.out (.tail _ (.head _)) (.all (by (first | exact EA.arr ‹_› | exact NA.arr ‹_› | exact arr_zE | exact arr_zN | exact arr_zP | exact arr_zQ | exact PtN.arr ‹_› | exact PtV.arr ‹_› | exact QtN.arr ‹_› | exact qE ‹_› ‹_› ‹_› ‹_› | exact qN ‹_› ‹_› ‹_› ‹_›))) rowP ?_; refine hK _ _ (fromT_mk HX.out ?_); (try simp only [Act.put, nq1, nq2, nq3, nq4, nq5, nq6])
      refine wpS_call rfl rfl ?_; intro K hK; refine wp_call rfl enWh rfl (wholeP _ (by assumption)) ?_; rintro e wy ⟨z, hz, rfl, hb⟩; refine ⟨_, rfl, ?_⟩; have HS := hide (HS.out.call hb); have HX := hide (HX.out.trans (hb.mono HX.out.size)); refine hK _ _ (fromT_mk HX.out ?_); (try simp only [Act.put, nq1, nq2, nq3, nq4, nq5, nq6])
      refine wpS_call rfl rfl ?_; intro K hK; refine wp_call rfl enWh rfl (wholeP _ (by assumption)) ?_; rintro e wy ⟨z, hz, rfl, hb⟩; refine ⟨_, rfl, ?_⟩; have HS := hide (HS.out.call hb); have HX := hide (HX.out.trans (hb.mono HX.out.size)); refine hK _ _ (fromT_mk HX.out ?_); (try simp only [Act.put, nq1, nq2, nq3, nq4, nq5, nq6])
      refine wpS_late rfl rfl ?_; intro K hK; refine wp_storeR rfl rfl rfl HS.out rowP (.tail (.tail (.head))) (by (first | exact EA.arr ‹_› | exact NA.arr ‹_› | exact arr_zE | exact arr_zN | exact arr_zP | exact arr_zQ | exact PtN.arr ‹_› | exact PtV.arr ‹_› | exact QtN.arr ‹_› | exact qE ‹_› ‹_› ‹_› ‹_› | exact qN ‹_› ‹_› ‹_› ‹_›)) (by (first | exact EA.arr ‹_› | exact NA.arr ‹_› | exact arr_zE | exact arr_zN | exact arr_zP | exact arr_zQ | exact PtN.arr ‹_› | exact PtV.arr ‹_› | exact QtN.arr ‹_› | exact qE ‹_› ‹_› ‹_› ‹_› | exact qN ‹_› ‹_› ‹_› ‹_›)) ?_; intro wz hS9; have HS := hide hS9; clear hS9; refine hK _ _ ?_; (try simp only [Act.put, nq1, nq2, nq3, nq4, nq5, nq6])
      refine wpS_any rfl rfl ?_; intro K hK; refine wp_storeR rfl rfl rfl HS.out rowP (.tail (.head)) (by (first | exact EA.arr ‹_› | exact NA.arr ‹_› | exact arr_zE | exact arr_zN | exact arr_zP | exact arr_zQ | exact PtN.arr ‹_› | exact PtV.arr ‹_› | exact QtN.arr ‹_› | exact qE ‹_› ‹_› ‹_› ‹_› | exact qN ‹_› ‹_› ‹_› ‹_›)) (by (first | exact EA.arr ‹_› | exact NA.arr ‹_› | exact arr_zE | exact arr_zN | exact arr_zP | exact arr_zQ | exact PtN.arr ‹_› | exact PtV.arr ‹_› | exact QtN.arr ‹_› | exact qE ‹_› ‹_› ‹_› ‹_› | exact qN ‹_› ‹_› ‹_› ‹_›)) ?_; intro wz hS9; have HS := hide hS9; clear hS9; refine hK _ _ ?_; (try simp only [Act.put, nq1, nq2, nq3, nq4, nq5, nq6])
      refine wpS_nil ?_
      go_wp2_with fail
      have HS := hide HS.out.drew
      refine wp_region_T [(0, 0), (1, 0), (2, 2), (3, 2), (4, 3)] (by kernel_rfl) (by kernel_rfl) (fun _ _ _ _ h => h) ?_
      refine wpT_loadP rfl rfl rfl rfl HS.out (.tail _ (.tail _ (.head _))) rowP (.all (by first | exact arr_zP | exact PtN.arr ‹_› | exact PtV.arr ‹_› | exact qE ‹_› ‹_› ‹_› ‹_›)) ?_; (try simp only [Act.put, nq1, nq2, nq3, nq4, nq5, nq6])
      refine wpT_loadP rfl rfl rfl rfl HS.out (.tail _ (.head _)) rowP (.all (by first | exact arr_zP | exact PtN.arr ‹_› | exact PtV.arr ‹_› | exact qE ‹_› ‹_› ‹_› ‹_›)) ?_; (try simp only [Act.put, nq1, nq2, nq3, nq4, nq5, nq6])
      refine wpT_callF rfl rfl rfl en29_ad rfl (numD _) ?_; rintro e wy ⟨z, hz, rfl, hb⟩; refine ⟨_, rfl, hb, ?_⟩; have HS := hide (HS.out.call hb); (try simp only [Act.put, nq1, nq2, nq3, nq4, nq5, nq6])
      refine wpT_callF rfl rfl rfl en31_ad rfl (plusP _ (by assumption) (by assumption) (by assumption)) ?_; rintro e wy ⟨z, hz, rfl, hb⟩; refine ⟨_, rfl, hb, ?_⟩; have HS := hide (HS.out.call hb); (try simp only [Act.put, nq1, nq2, nq3, nq4, nq5, nq6])
      refine wpT_late rfl rfl ?_; intro K hK; refine wp_storeR rfl rfl rfl HS.out rowP (.head) (by first | exact arr_zP | exact PtN.arr ‹_› | exact PtV.arr ‹_› | exact qE ‹_› ‹_› ‹_› ‹_›) (by first | exact arr_zP | exact PtN.arr ‹_› | exact PtV.arr ‹_› | exact qE ‹_› ‹_› ‹_› ‹_›) ?_; intro wz hS9; have HS := hide hS9; clear hS9; refine hK _ _ ?_; (try simp only [Act.put, nq1, nq2, nq3, nq4, nq5, nq6])
      refine wpT_nil ?_
      go_wp2_with fail
      refine bodyPost_ret (results_cell_row rfl _ _ _ _ _ _ _ rfl (HS.out.heapM (by (repeat first | exact .head _ | apply List.Mem.tail))) Tryd.underlying29 rfl (by first | (rw [(EA.arr ‹_›).size]; kernel_rfl) | (rw [(NA.arr ‹_›).size]; kernel_rfl) | (rw [(qE ‹_› ‹_› ‹_› ‹_›).size]; kernel_rfl) | (rw [(qN ‹_› ‹_› ‹_› ‹_›).size]; kernel_rfl) | (rw [(PtN.arr ‹_›).size]; kernel_rfl) | (rw [(PtV.arr ‹_›).size]; kernel_rfl) | (rw [(QtN.arr ‹_›).size]; kernel_rfl))) rfl ?_
      exact ⟨_, by assumption, rfl, HS.out.below⟩
  · refine wpS_call rfl rfl ?_; intro K hK; refine wp_loadP rfl rfl HS.out (.tail _ (.head _)) (.all (by (first | exact EA.arr ‹_› | exact NA.arr ‹_› | exact arr_zE | exact arr_zN | exact arr_zP | exact arr_zQ | exact PtN.arr ‹_› | exact PtV.arr ‹_› | exact QtN.arr ‹_› | exact qE ‹_› ‹_› ‹_› ‹_› | exact qN ‹_› ‹_› ‹_› ‹_›))) rowP ?_; refine hK _ _ (fromT_mk HX.out ?_); (try simp only [Act.put, nq1, nq2, nq3, nq4, nq5, nq6])
    refine wpS_call rfl rfl ?_; intro K hK; refine wp_loadP rfl rfl HS.out (.tail _ (.tail _ (.head _))) (.all (by (first | exact EA.arr ‹_› | exact NA.arr ‹_› | exact arr_zE | exact arr_zN | exact arr_zP | exact arr_zQ | exact PtN.arr ‹_› | exact PtV.arr ‹_› | exact QtN.arr ‹_› | exact qE ‹_› ‹_› ‹_› ‹_› | exact qN ‹_› ‹_› ‹_› ‹_›))) rowP ?_; refine hK _ _ (fromT_mk HX.out ?_); (try simp only [Act.put, nq1, nq2, nq3, nq4, nq5, nq6])
    refine wpS_call rfl rfl ?_; intro K hK; refine wp_call rfl enWh rfl (wholeP _ (by assumption)) ?_; rintro e wy ⟨z, hz, rfl, hb⟩; refine ⟨_, rfl, ?_⟩; have HS := hide (HS.out.call hb); have HX := hide (HX.out.trans (hb.mono HX.out.size)); refine hK _ _ (fromT_mk HX.out ?_); (try simp only [Act.put, nq1, nq2, nq3, nq4, nq5, nq6])
    refine wpS_call rfl rfl ?_; intro K hK; refine wp_call rfl enWh rfl (wholeP _ (by assumption)) ?_; rintro e wy ⟨z, hz, rfl, hb⟩; refine ⟨_, rfl, ?_⟩; have HS := hide (HS.out.call hb); have HX := hide (HX.out.trans (hb.mono HX.out.size)); refine hK _ _ (fromT_mk HX.out ?_); (try simp only [Act.put, nq1, nq2, nq3, nq4, nq5, nq6])
    refine wpS_late rfl rfl ?_; intro K hK; refine wp_storeR rfl rfl rfl HS.out rowP (.tail (.tail (.head))) (by (first | exact EA.arr ‹_› | exact NA.arr ‹_› | exact arr_zE | exact arr_zN | exact arr_zP | exact arr_zQ | exact PtN.arr ‹_› | exact PtV.arr ‹_› | exact QtN.arr ‹_› | exact qE ‹_› ‹_› ‹_› ‹_› | exact qN ‹_› ‹_› ‹_› ‹_›)) (by (first | exact EA.arr ‹_› | exact NA.arr ‹_› | exact arr_zE | exact arr_zN | exact arr_zP | exact arr_zQ | exact PtN.arr ‹_› | exact PtV.arr ‹_› | exact QtN.arr ‹_› | exact qE ‹_› ‹_› ‹_› ‹_› | exact qN ‹_› ‹_› ‹_› ‹_›)) ?_; intro wz hS9; have HS := hide hS9; clear hS9; refine hK _ _ ?_; (try simp only [Act.put, nq1, nq2, nq3, nq4, nq5, nq6])
    refine wpS_any rfl rfl ?_; intro K hK; refine wp_storeR rfl rfl rfl HS.out rowP (.tail (.head)) (by (first | exact EA.arr ‹_› | exact NA.arr ‹_› | exact arr_zE | exact arr_zN | exact arr_zP | exact arr_zQ | exact PtN.arr ‹_› | exact PtV.arr ‹_› | exact QtN.arr ‹_› | exact qE ‹_› ‹_› ‹_› ‹_› | exact qN ‹_› ‹_› ‹_› ‹_›)) (by (first | exact EA.arr ‹_› | exact NA.arr ‹_› | exact arr_zE | exact arr_zN | exact arr_zP | exact arr_zQ | exact PtN.arr ‹_› | exact PtV.arr ‹_› | exact QtN.arr ‹_› | exact qE ‹_› ‹_› ‹_› ‹_› | exact qN ‹_› ‹_› ‹_› ‹_›)) ?_; intro wz hS9; have HS := hide hS9; clear hS9; refine hK _ _ ?_; (try simp only [Act.put, nq1, nq2, nq3, nq4, nq5, nq6])
    refine wpS_nil ?_
    go_wp2_with fail
    have HS := hide HS.out.drew
    refine wp_region_T [(0, 0), (1, 0), (2, 2), (3, 2), (4, 3)] (by kernel_rfl) (by kernel_rfl) (fun _ _ _ _ h => h) ?_
    refine wpT_loadP rfl rfl rfl rfl HS.out (.tail _ (.tail _ (.head _))) rowP (.all (by first | exact arr_zP | exact PtN.arr ‹_› | exact PtV.arr ‹_› | exact qE ‹_› ‹_› ‹_› ‹_›)) ?_; (try simp only [Act.put, nq1, nq2, nq3, nq4, nq5, nq6])
    refine wpT_loadP rfl rfl rfl rfl HS.out (.tail _ (.head _)) rowP (.all (by first | exact arr_zP | exact PtN.arr ‹_› | exact PtV.arr ‹_› | exact qE ‹_› ‹_› ‹_› ‹_›)) ?_; (try simp only [Act.put, nq1, nq2, nq3, nq4, nq5, nq6])
    refine wpT_callF rfl rfl rfl en29_ad rfl (numD _) ?_; rintro e wy ⟨z, hz, rfl, hb⟩; refine ⟨_, rfl, hb, ?_⟩; have HS := hide (HS.out.call hb); (try simp only [Act.put, nq1, nq2, nq3, nq4, nq5, nq6])
    refine wpT_callF rfl rfl rfl en31_ad rfl (plusP _ (by assumption) (by assumption) (by assumption)) ?_; rintro e wy ⟨z, hz, rfl, hb⟩; refine ⟨_, rfl, hb, ?_⟩; have HS := hide (HS.out.call hb); (try simp only [Act.put, nq1, nq2, nq3, nq4, nq5, nq6])
    refine wpT_late rfl rfl ?_; intro K hK; refine wp_storeR rfl rfl rfl HS.out rowP (.head) (by first | exact arr_zP | exact PtN.arr ‹_› | exact PtV.arr ‹_› | exact qE ‹_› ‹_› ‹_› ‹_›) (by first | exact arr_zP | exact PtN.arr ‹_› | exact PtV.arr ‹_› | exact qE ‹_› ‹_› ‹_› ‹_›) ?_; intro wz hS9; have HS := hide hS9; clear hS9; refine hK _ _ ?_; (try simp only [Act.put, nq1, nq2, nq3, nq4, nq5, nq6])
    refine wpT_nil ?_
    go_wp2_with fail
    refine bodyPost_ret (results_cell_row rfl _ _ _ _ _ _ _ rfl (HS.out.heapM (by (repeat first | exact .head _ | apply List.Mem.tail))) Tryd.underlying29 rfl (by first | (rw [(EA.arr ‹_›).size]; kernel_rfl) | (rw [(NA.arr ‹_›).size]; kernel_rfl) | (rw [(qE ‹_› ‹_› ‹_› ‹_›).size]; kernel_rfl) | (rw [(qN ‹_› ‹_› ‹_› ‹_›).size]; kernel_rfl) | (rw [(PtN.arr ‹_›).size]; kernel_rfl) | (rw [(PtV.arr ‹_›).size]; kernel_rfl) | (rw [(QtN.arr ‹_›).size]; kernel_rfl))) rfl ?_
    exact ⟨_, by assumption, rfl, HS.out.below⟩
set_option maxRecDepth 100000 in
set_option maxHeartbeats 1600000 in
theorem negP {v : Array Value} {P : Ed} (w : World) (hv : PtV v P) : Calls Tryd.prog 19 #[.agg v] w (ResV w P.neg) := by
  have HS := hide (St.init w NoB)
  go_enter Tryd.func19, Tryd.ntmps19
  go_wp2_with (first | (go_at_call 30; (with_reducible refine (wholeP _ (by assumption)).mono ?_); rintro e wy ⟨v2, hv2, rfl, hb⟩; obtain ⟨⟨X, Y, Z, T⟩, a, b, c, d, rfl, h1, h2, h3, h4, h5⟩ := hv2.ex; have HS := hide (HS.out.call hb)) | (refine wl_loadP rfl rfl rfl HS.out (by (repeat first | exact .head _ | apply List.Mem.tail)) (by first | exact rowE | exact rowP | exact rowN | exact rowQ) (by (first | exact .q0 (EA.arr ‹_›) | exact .q1 (EA.arr ‹_›) (EA.arr ‹_›) | exact .q2 (EA.arr ‹_›) (EA.arr ‹_›) (EA.arr ‹_›) | exact .q3 (EA.arr ‹_›) (EA.arr ‹_›) (EA.arr ‹_›) (EA.arr ‹_›) | exact .q0 (NA.arr ‹_›) | exact .q1 (NA.arr ‹_›) (NA.arr ‹_›) | exact .q2 (NA.arr ‹_›) (NA.arr ‹_›) (NA.arr ‹_›) | exact .q3 (NA.arr ‹_›) (NA.arr ‹_›) (NA.arr ‹_›) (NA.arr ‹_›) | exact .all (by (first | exact EA.arr ‹_› | exact NA.arr ‹_› | exact arr_zE | exact arr_zN | exact arr_zP | exact arr_zQ | exact PtN.arr ‹_› | exact PtV.arr ‹_› | exact QtN.arr ‹_› | exact qE ‹_› ‹_› ‹_› ‹_› | exact qN ‹_› ‹_› ‹_› ‹_›)))) ?_; (try simp only [Act.put, nq1, nq2, nq3, nq4, nq5, nq6])) | (refine wl_storeR rfl rfl rfl rfl HS.out (by first | exact rowE | exact rowP | exact rowN | exact rowQ) (by (repeat first | exact .head | apply Upd.tail)) (by (first | exact EA.arr ‹_› | exact NA.arr ‹_› | exact arr_zE | exact arr_zN | exact arr_zP | exact arr_zQ | exact PtN.arr ‹_› | exact PtV.arr ‹_› | exact QtN.arr ‹_› | exact qE ‹_› ‹_› ‹_› ‹_› | exact qN ‹_› ‹_› ‹_› ‹_›)) (by (first | exact EA.arr ‹_› | exact NA.arr ‹_› | exact arr_zE | exact arr_zN | exact arr_zP | exact arr_zQ | exact PtN.arr ‹_› | exact PtV.arr ‹_› | exact QtN.arr ‹_› | exact qE ‹_› ‹_› ‹_› ‹_› | exact qN ‹_› ‹_› ‹_› ‹_›)) ?_; intro wz hS9; have HS := hide hS9; clear hS9; (try simp only [Act.put, nq1, nq2, nq3, nq4, nq5, nq6])) | (refine wl_allocR rfl rfl HS.out (by first | exact newE | exact newP | exact newN | exact newQ) ?_; intro gz wz hS9; have HS := hide hS9; clear hS9; (try simp only [Act.put, nq1, nq2, nq3, nq4, nq5, nq6])) | (refine wl_boxR rfl rfl rfl HS.out ?_; intro gz wz hS9; have HS := hide hS9; clear hS9; (try simp only [Act.put, nq1, nq2, nq3, nq4, nq5, nq6])))
  have HS := hide HS.out.drew
  refine wp_region_T [(0, 1), (1, 0), (3, 1), (4, 0), (5, 1), (6, 0), (7, 1), (8, 0), (2, 2), (9, 2), (10, 1), (11, 3)] (by kernel_rfl) (by kernel_rfl) (fun _ _ _ _ h => h) ?_
  (refine wpT_pure (v := ?_) rfl rfl ?_ ?_; rotate_left; (intro wx; go_simp; try go_bits) <;> (with_reducible rfl)); (try simp only [Act.put, nq1, nq2, nq3, nq4, nq5, nq6])
  refine wpT_loadP rfl rfl rfl rfl HS.out (.tail _ (.head _)) rowE (.q0 (EA.arr ‹_›)) ?_; (try simp only [Act.put, nq1, nq2, nq3, nq4, nq5, nq6])
  (refine wpT_pure (v := ?_) rfl rfl ?_ ?_; rotate_left; (intro wx; go_simp; try go_bits) <;> (with_reducible rfl)); (try simp only [Act.put, nq1, nq2, nq3, nq4, nq5, nq6])
  refine wpT_loadP rfl rfl rfl rfl HS.out (.tail _ (.head _)) rowE (.q1 (EA.arr ‹_›) (EA.arr ‹_›)) ?_; (try simp only [Act.put, nq1, nq2, nq3, nq4, nq5, nq6])
  (refine wpT_pure (v := ?_) rfl rfl ?_ ?_; rotate_left; (intro wx; go_simp; try go_bits) <;> (with_reducible rfl)); (try simp only [Act.put, nq1, nq2, nq3, nq4, nq5, nq6])
  refine wpT_loadP rfl rfl rfl rfl HS.out (.tail _ (.head _)) rowE (.q2 (EA.arr ‹_›) (EA.arr ‹_›) (EA.arr ‹_›)) ?_; (try simp only [Act.put, nq1, nq2, nq3, nq4, nq5, nq6])
  (refine wpT_pure (v := ?_) rfl rfl ?_ ?_; rotate_left; (intro wx; go_simp; try go_bits) <;> (with_reducible rfl)); (try simp only [Act.put, nq1, nq2, nq3, nq4, nq5, nq6])
  refine wpT_loadP rfl rfl rfl rfl HS.out (.tail _ (.head _)) rowE (.q3 (EA.arr ‹_›) (EA.arr ‹_›) (EA.arr ‹_›) (EA.arr ‹_›)) ?_; (try simp only [Act.put, nq1, nq2, nq3, nq4, nq5, nq6])
  refine wpT_callF rfl rfl rfl en45_ng rfl (negA _ ‹_›) ?_; rintro e wy ⟨z, hz, rfl, hb⟩; refine ⟨_, rfl, hb, ?_⟩; have HS := hide (HS.out.call hb); (try simp only [Act.put, nq1, nq2, nq3, nq4, nq5, nq6])
  refine wpT_callF rfl rfl rfl en45_ng rfl (negA _ ‹_›) ?_; rintro e wy ⟨z, hz, rfl, hb⟩; refine ⟨_, rfl, hb, ?_⟩; have HS := hide (HS.out.call hb); (try simp only [Act.put, nq1, nq2, nq3, nq4, nq5, nq6])
  refine wpT_pure rfl rfl (fun x => run_build4 rfl rfl rfl rfl rfl buildP (exE ‹_›) (exE ‹_›) (exE ‹_›) (exE ‹_›) x) ?_; (try simp only [Act.put, nq1, nq2, nq3, nq4, nq5, nq6])
  refine wpT_late rfl rfl ?_; intro K hK; refine wp_storeR rfl rfl rfl HS.out rowP (.head) (by first | exact arr_zP | exact PtN.arr ‹_› | exact PtV.arr ‹_› | exact qE ‹_› ‹_› ‹_› ‹_›) (by first | exact arr_zP | exact PtN.arr ‹_› | exact PtV.arr ‹_› | exact qE ‹_› ‹_› ‹_› ‹_›) ?_; intro wz hS9; have HS := hide hS9; clear hS9; refine hK _ _ ?_; (try simp only [Act.put, nq1, nq2, nq3, nq4, nq5, nq6])
  refine wpT_nil ?_
  go_wp2_with fail
  refine bodyPost_ret (results_cell_row rfl _ _ _ _ _ _ _ rfl (HS.out.heapM (by (repeat first | exact .head _ | apply List.Mem.tail))) Tryd.underlying29 rfl (by first | (rw [(EA.arr ‹_›).size]; kernel_rfl) | (rw [(NA.arr ‹_›).size]; kernel_rfl) | (rw [(qE ‹_› ‹_› ‹_› ‹_›).size]; kernel_rfl) | (rw [(qN ‹_› ‹_› ‹_› ‹_›).size]; kernel_rfl) | (rw [(PtN.arr ‹_›).size]; kernel_rfl) | (rw [(PtV.arr ‹_›).size]; kernel_rfl) | (rw [(QtN.arr ‹_›).size]; kernel_rfl))) rfl ?_
  exact ⟨_, ⟨⟨-X, Y, Z, -T⟩, _, _, _, _, rfl, by assumption, h2, h3, by assumption, rp_neg h5⟩, rfl, HS.out.below⟩
end Go.Proofs.YtgahjjdbpjgemaaDoor
