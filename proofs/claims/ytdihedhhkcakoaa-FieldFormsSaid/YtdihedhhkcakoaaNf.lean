/-
  The page's FromBytes, Small.
-/
import Derived.Test.YtdihedhhkcakoaaNe
import Derived.Test.YtdihedhhkcakoaaFm
namespace Go.Proofs.Ytdihedhhkcakoaa
open Go.RowKit
set_option linter.unusedSimpArgs false

theorem rd_at' {w : World} {B : Option Addr} {n d : Nat} {xs : List Value} {k : Nat} {u : Value} (h : Rd w (.slice B n d) 1 n xs) (hk : xs[k]? = some u) : ∃ b o, B = some ⟨b, o, none⟩ ∧ w.cell? ⟨b, o + k, none⟩ = some u := by
  rcases h.cases with ⟨_, _, h0⟩ | ⟨b, o, sp, c', hv, _, _, _, hl, h4, hc⟩
  · rw [h0] at hk; simp at hk
  · injection hv with hv1 _ _
    have hkl : k < xs.length := (List.getElem?_eq_some_iff.1 hk).1
    have := h4 (by omega)
    subst this hv1
    exact ⟨b, o, rfl, hc k u hk⟩
/-- The page's number behind k bytes. -/
def frL (l : List UInt8) : Nat → List Int
  | 0 => List.replicate 16 0
  | k + 1 => (frL l k).set (k / 2) ((frL l k).getD (k / 2) 0 + ((l.getD k 0).toNat : Int) * 256 ^ (k % 2))
theorem frL_len (l : List UInt8) : ∀ k, (frL l k).length = 16
  | 0 => rfl
  | k + 1 => by rw [frL, List.length_set, frL_len l k]
theorem frL_bd (l : List UInt8) : ∀ (k j : Nat), 0 ≤ (frL l k).getD j 0 ∧ (frL l k).getD j 0 ≤ (if 2 * j < k then 255 else 0) + (if 2 * j + 1 < k then 65280 else 0)
  | 0, j => by
    have : (List.replicate 16 (0 : Int)).getD j 0 = 0 := by rw [List.getD_eq_getElem?_getD, List.getElem?_replicate]; split <;> rfl
    rw [frL, this]
    simp
  | k + 1, j => by
    have ih := frL_bd l k j
    have ih2 := frL_bd l k (k / 2)
    have hc := UInt8.toNat_lt (l.getD k 0)
    rw [frL, getD_set]
    split
    · rename_i h
      obtain ⟨h, _⟩ := h
      subst h
      rcases Nat.mod_two_eq_zero_or_one k with hm | hm
      · rw [hm, Int.pow_zero, Int.mul_one]
        rw [if_neg (by omega), if_neg (by omega)] at ih2
        rw [if_pos (by omega), if_neg (by omega)]
        omega
      · rw [hm, Int.pow_one]
        rw [if_pos (by omega), if_neg (by omega)] at ih2
        rw [if_pos (by omega), if_pos (by omega)]
        omega
    · refine ⟨ih.1, Int.le_trans ih.2 ?_⟩
      split <;> split <;> split <;> split <;> omega
theorem frL_nv (l : List UInt8) : ∀ k, k ≤ 32 → k ≤ l.length → nv (frL l k) = (bval (l.take k) : Int)
  | 0, _, _ => by rw [List.take_zero]; rfl
  | k + 1, hk, hl => by
    have hx : l[k]? = some l[k] := List.getElem?_eq_getElem (by omega)
    have hg : l.getD k 0 = l[k] := by rw [List.getD_eq_getElem?_getD, hx]; rfl
    have e : (256 : Int) ^ (k % 2) * 65536 ^ (k / 2) = 256 ^ k := by
      rw [show (65536 : Int) = 256 ^ 2 from rfl, ← Int.pow_mul, ← Int.pow_add]
      congr 1
      omega
    rw [frL, nv_set _ _ _ (by rw [frL_len]; omega), frL_nv l k (by omega) (by omega), bval_take hx, hg]
    rw [show (frL l k).getD (k / 2) 0 + ((l[k]).toNat : Int) * 256 ^ (k % 2) - (frL l k).getD (k / 2) 0 = ((l[k]).toNat : Int) * 256 ^ (k % 2) from by omega, Int.mul_assoc, e]
    rw [Int.natCast_add, Int.natCast_mul, Int.natCast_pow]
    rfl
theorem bval_fullT (l : List UInt8) : bval (fullL l) = bval (l.take (min l.length 32)) := by
  unfold fullL
  rcases Nat.le_total l.length 32 with h | h
  · rw [Nat.min_eq_left h, List.take_of_length_le (Nat.le_refl _), List.take_append, List.take_of_length_le h, bval_append, List.take_replicate, bval_zeros]
    omega
  · rw [Nat.min_eq_right h, List.take_append_of_le_length h]
/-- Rows that stand for an element of the field. -/
def NE (xs : List Int) (X : FK) : Prop := NB xs ∧ nv xs % (Pq : Int) = (X.val : Int)
theorem frL_ne (l : List UInt8) : NE (frL l (min l.length 32)) (fbytes l) := by
  refine ⟨⟨frL_len _ _, fun k x hx => ?_⟩, ?_⟩
  · have h := frL_bd l (min l.length 32) k
    rw [getD_of hx] at h
    split at h <;> split at h <;> split <;> omega
  · rw [frL_nv l _ (Nat.min_le_right _ _) (Nat.min_le_left _ _), ← bval_fullT]
    rfl
def FrRel (w : World) (l : List UInt8) (m : Nat) (iv : Value) (wr : World) : Prop :=
  ∃ i : Nat, i ≤ m ∧ iv = .int .i64 (i : Int) ∧ St w NoB wr [.cells (w.heap.size + 1) (ivs (frL l i)).toArray 41, .cells w.heap.size (ivs (List.replicate 16 0)).toArray 41]
set_option maxRecDepth 100000 in
set_option maxHeartbeats 1600000 in
theorem frBytes_lo (A : Option Addr) (n c : Nat) (l : List UInt8) (w : World) (hl : l.length = n) (hn : n ≤ 1000) (hr : Rd w (.slice A n c) 1 n (bvs l)) (h32 : n ≤ 32) :
    Calls Try.prog 21 #[.slice A n c] w fun e w' => e = .returned (.agg (ivs (frL l n)).toArray) ∧ Below w.heap.size w w' := by
  have HR := hide hr
  have HL := hide hl
  have HS0 := ((St.init w NoB).alloc (ivs (List.replicate 16 0)).toArray 41).alloc (ivs (List.replicate 16 0)).toArray 41
  rw [size_alloc1] at HS0
  have HS := hide HS0
  have dn : decide ((32 : Int) < (n : Int)) = false := by simp; omega
  have HNN := hide h32
  clear HS0 hr hl
  go_enter Try.func21, Try.ntmps21
  go_wp2_with fail
  go_loopw [8] (fun i wr => FrRel w l n i wr) (fun i _ => n - (intOf i).toNat)
  case atStart => exact ⟨0, by omega, rfl, HS.out⟩
  case round =>
    clear HS h32
    obtain ⟨i, hi, rfl, hS⟩ := hrel
    have HS := hide hS
    by_cases hlt : i < n
    · have dm : decide ((i : Int) < (n : Int)) = true := by simp; omega
      have im : (i : Int) < (n : Int) := by omega
      have hin : i < n := by have := HNN.out; omega
      have i32 : i < 32 := by have := HNN.out; omega
      have inn : (i : Int) < (n : Int) := by omega
      have hxb : l[i]? = some (l.getD i 0) := by rw [List.getD_eq_getElem?_getD, List.getElem?_eq_getElem (by rw [HL.out]; exact hin)]; rfl
      obtain ⟨b, o, rfl, hcb⟩ := rd_at' (HR.out.st hS.drew) (bvs_get hxb)
      obtain ⟨ch, hch⟩ : ∃ c : Nat, c = (l.getD i 0).toNat := ⟨_, rfl⟩
      have hc8 : ch < 256 := by rw [hch]; exact UInt8.toNat_lt _
      have HCH := hide hch
      rw [← hch] at hcb
      obtain ⟨q, hq⟩ : ∃ q, q = i / 2 := ⟨_, rfl⟩
      have hbd := frL_bd l i q
      have e1 : (i : Int).tdiv 2 = (q : Int) := by rw [Int.tdiv_eq_ediv_of_nonneg (by omega)]; omega
      have q16 : q < 16 := by omega
      have c0 : wr.drew.cell? ⟨w.heap.size + 1, q, none⟩ = some (.int .i64 ((frL l i).getD q 0)) := by rw [hS.drew.cell 0 rfl q]; exact ivs_get (len16 (frL_len l i) q16)
      have f0 := hS.drew.free 0 rfl q
      have qi : (q : Int) < 16 := by omega
      have HT := hide (show (frL l i).set q ((frL l i).getD q 0 + (ch : Int) * 256 ^ (i % 2)) = frL l (i + 1) by rw [hq, hch]; rfl)
      obtain ⟨x, hx⟩ : ∃ x, x = (frL l i).getD q 0 := ⟨_, rfl⟩
      rw [← hx] at c0 hbd HT
      have x0 : 0 ≤ x := hbd.1
      have x1 : x ≤ 65535 := by have := hbd.2; split at this <;> split at this <;> omega
      clear hx hbd hch hS hxb
      rcases Nat.mod_two_eq_zero_or_one i with hm2 | hm2
      · have e2 : (i : Int).tmod 2 = 0 := by rw [Int.tmod_eq_emod_of_nonneg (by omega)]; omega
        rw [hm2, Int.pow_zero, Int.mul_one] at HT
        clear hq hm2
        go_upto_region 5 with fail
        refine wp_region_T [(0, 1), (1, 1), (2, 1), (3, 0), (4, 1), (5, 1), (6, 1), (7, 0), (8, 1), (9, 1), (10, 1), (11, 1), (12, 1), (13, 1), (14, 1), (15, 1), (16, 3)] (by kernel_rfl) (by kernel_rfl) (fun _ _ _ _ h => h) ?_
        go_wp2_with (first | (refine wpT_nil ?_)   | (refine fromT_refl ?_; (try simp only [Act.put, List.setIfInBounds_toArray, List.set_cons_zero, List.set_cons_succ, List.getElem_toArray, List.getElem_cons_succ, List.getElem_cons_zero]))   | (refine fromT_mk (by assumption) ?_; (try simp only [Act.put, List.setIfInBounds_toArray, List.set_cons_zero, List.set_cons_succ, List.getElem_toArray, List.getElem_cons_succ, List.getElem_cons_zero]))   | (refine wpT_pure (v := ?_) rfl rfl ?_ ?_; rotate_left; (intro wx; go_simp; try go_bits) <;> (with_reducible rfl); (try simp only [Act.put, List.setIfInBounds_toArray, List.set_cons_zero, List.set_cons_succ, List.getElem_toArray, List.getElem_cons_succ, List.getElem_cons_zero]))   | (refine wpT_load (v := ?_) rfl rfl rfl ?_ ?_; rotate_left; (go_simp; try go_bits) <;> (with_reducible rfl); (try simp only [Act.put, List.setIfInBounds_toArray, List.set_cons_zero, List.set_cons_succ, List.getElem_toArray, List.getElem_cons_succ, List.getElem_cons_zero]))   | (refine wpT_read (v := ?_) rfl rfl ?_ ?_; rotate_left; (intro wx hx; go_simp; try go_bits) <;> (with_reducible rfl); (try simp only [Act.put, List.setIfInBounds_toArray, List.set_cons_zero, List.set_cons_succ, List.getElem_toArray, List.getElem_cons_succ, List.getElem_cons_zero]))   | (refine wpT_call rfl rfl ?_; intro K hK)   | (refine wpT_late rfl rfl ?_; intro K hK)   | (refine wpT_any rfl rfl ?_; intro K hK)   | (refine wpT_skip rfl rfl ?_; (try simp only [Act.put, List.setIfInBounds_toArray, List.set_cons_zero, List.set_cons_succ, List.getElem_toArray, List.getElem_cons_succ, List.getElem_cons_zero])))
        go_roundw
        case rel =>
          have h3 := HS.out.drew.setCell 0 rfl q (.int .i64 (x + (ch : Int)))
          simp only [List.set_cons_zero, ivs_set] at h3
          rw [HT.out] at h3
          exact ⟨i + 1, by omega, by go_num, h3⟩
        case measure => (simp [intOf]) <;> omega
      · have e2 : (i : Int).tmod 2 = 1 := by rw [Int.tmod_eq_emod_of_nonneg (by omega)]; omega
        rw [hm2, Int.pow_succ, Int.pow_zero, Int.one_mul] at HT
        clear hq hm2
        go_upto_region 5 with fail
        refine wp_region_T [(0, 1), (1, 1), (2, 1), (3, 0), (4, 1), (5, 1), (6, 1), (7, 0), (8, 1), (9, 1), (10, 1), (11, 1), (12, 1), (13, 1), (14, 1), (15, 1), (16, 3)] (by kernel_rfl) (by kernel_rfl) (fun _ _ _ _ h => h) ?_
        go_wp2_with (first | (refine wpT_nil ?_)   | (refine fromT_refl ?_; (try simp only [Act.put, List.setIfInBounds_toArray, List.set_cons_zero, List.set_cons_succ, List.getElem_toArray, List.getElem_cons_succ, List.getElem_cons_zero]))   | (refine fromT_mk (by assumption) ?_; (try simp only [Act.put, List.setIfInBounds_toArray, List.set_cons_zero, List.set_cons_succ, List.getElem_toArray, List.getElem_cons_succ, List.getElem_cons_zero]))   | (refine wpT_pure (v := ?_) rfl rfl ?_ ?_; rotate_left; (intro wx; go_simp; try go_bits) <;> (with_reducible rfl); (try simp only [Act.put, List.setIfInBounds_toArray, List.set_cons_zero, List.set_cons_succ, List.getElem_toArray, List.getElem_cons_succ, List.getElem_cons_zero]))   | (refine wpT_load (v := ?_) rfl rfl rfl ?_ ?_; rotate_left; (go_simp; try go_bits) <;> (with_reducible rfl); (try simp only [Act.put, List.setIfInBounds_toArray, List.set_cons_zero, List.set_cons_succ, List.getElem_toArray, List.getElem_cons_succ, List.getElem_cons_zero]))   | (refine wpT_read (v := ?_) rfl rfl ?_ ?_; rotate_left; (intro wx hx; go_simp; try go_bits) <;> (with_reducible rfl); (try simp only [Act.put, List.setIfInBounds_toArray, List.set_cons_zero, List.set_cons_succ, List.getElem_toArray, List.getElem_cons_succ, List.getElem_cons_zero]))   | (refine wpT_call rfl rfl ?_; intro K hK)   | (refine wpT_late rfl rfl ?_; intro K hK)   | (refine wpT_any rfl rfl ?_; intro K hK)   | (refine wpT_skip rfl rfl ?_; (try simp only [Act.put, List.setIfInBounds_toArray, List.set_cons_zero, List.set_cons_succ, List.getElem_toArray, List.getElem_cons_succ, List.getElem_cons_zero])))
        go_roundw
        case rel =>
          have h3 := HS.out.drew.setCell 0 rfl q (.int .i64 (x + (ch : Int) * 256))
          simp only [List.set_cons_zero, ivs_set] at h3
          rw [HT.out] at h3
          exact ⟨i + 1, by omega, by go_num, h3⟩
        case measure => (simp [intOf]) <;> omega
    · obtain rfl : n = i := by omega
      obtain ⟨ra, hra⟩ : ∃ a, a = (ivs (frL l n)).toArray := ⟨_, rfl⟩
      have hsr : ra.size = 16 := by rw [hra, List.size_toArray, ivs_len, frL_len]
      have hor : ra.all (·.oneCell') = true := by rw [hra]; exact ivs_all _
      rw [← hra] at hS
      have HRA := hide hra
      have HS1 := hide hS
      have HS2 := hide (hS.setRow 1 rfl ra)
      clear hS HS hra
      go_upto_region 7 with fail
      refine wp_region_list ?_
      refine wpList_load_row rfl 41 (.tmp 3) rfl (w.heap.size + 1) rfl 41 ra _ _ (HS1.out.heap 0 rfl) Try.underlying41 rfl (by rw [hsr]; kernel_rfl) ?_
      refine wpList_store_row rfl 41 (.tmp 2) (.tmp 28) rfl w.heap.size ra rfl rfl 41 _ (HS1.out.heap 1 rfl) (by rw [hsr]; kernel_rfl) (by rw [hsr]; rfl) hor ?_
      refine wpList_nil ?_
      go_wp2_with fail
      refine bodyPost_ret (results_cell_row rfl _ _ w.heap.size _ _ _ _ rfl (HS2.out.heap 1 rfl) Try.underlying41 rfl (by rw [hsr]; kernel_rfl)) rfl ?_
      exact ⟨by rw [HRA.out], HS2.out.below⟩
set_option maxRecDepth 100000 in
set_option maxHeartbeats 1600000 in
theorem frBytes_hi (A : Option Addr) (n c : Nat) (l : List UInt8) (w : World) (hl : l.length = n) (hn : n ≤ 1000) (hr : Rd w (.slice A n c) 1 n (bvs l)) (h32 : 32 < n) :
    Calls Try.prog 21 #[.slice A n c] w fun e w' => e = .returned (.agg (ivs (frL l 32)).toArray) ∧ Below w.heap.size w w' := by
  have HR := hide hr
  have HL := hide hl
  have HS0 := ((St.init w NoB).alloc (ivs (List.replicate 16 0)).toArray 41).alloc (ivs (List.replicate 16 0)).toArray 41
  rw [size_alloc1] at HS0
  have HS := hide HS0
  have dn : decide ((32 : Int) < (n : Int)) = true := by simp; omega
  have HNN := hide h32
  clear HS0 hr hl
  go_enter Try.func21, Try.ntmps21
  go_wp2_with fail
  go_loopw [8] (fun i wr => FrRel w l 32 i wr) (fun i _ => 32 - (intOf i).toNat)
  case atStart => exact ⟨0, by omega, rfl, HS.out⟩
  case round =>
    clear HS h32
    obtain ⟨i, hi, rfl, hS⟩ := hrel
    have HS := hide hS
    by_cases hlt : i < 32
    · have dm : decide ((i : Int) < 32) = true := by simp; omega
      have im : (i : Int) < 32 := by omega
      have hin : i < n := by have := HNN.out; omega
      have i32 : i < 32 := by have := HNN.out; omega
      have inn : (i : Int) < (n : Int) := by omega
      have hxb : l[i]? = some (l.getD i 0) := by rw [List.getD_eq_getElem?_getD, List.getElem?_eq_getElem (by rw [HL.out]; exact hin)]; rfl
      obtain ⟨b, o, rfl, hcb⟩ := rd_at' (HR.out.st hS.drew) (bvs_get hxb)
      obtain ⟨ch, hch⟩ : ∃ c : Nat, c = (l.getD i 0).toNat := ⟨_, rfl⟩
      have hc8 : ch < 256 := by rw [hch]; exact UInt8.toNat_lt _
      have HCH := hide hch
      rw [← hch] at hcb
      obtain ⟨q, hq⟩ : ∃ q, q = i / 2 := ⟨_, rfl⟩
      have hbd := frL_bd l i q
      have e1 : (i : Int).tdiv 2 = (q : Int) := by rw [Int.tdiv_eq_ediv_of_nonneg (by omega)]; omega
      have q16 : q < 16 := by omega
      have c0 : wr.drew.cell? ⟨w.heap.size + 1, q, none⟩ = some (.int .i64 ((frL l i).getD q 0)) := by rw [hS.drew.cell 0 rfl q]; exact ivs_get (len16 (frL_len l i) q16)
      have f0 := hS.drew.free 0 rfl q
      have qi : (q : Int) < 16 := by omega
      have HT := hide (show (frL l i).set q ((frL l i).getD q 0 + (ch : Int) * 256 ^ (i % 2)) = frL l (i + 1) by rw [hq, hch]; rfl)
      obtain ⟨x, hx⟩ : ∃ x, x = (frL l i).getD q 0 := ⟨_, rfl⟩
      rw [← hx] at c0 hbd HT
      have x0 : 0 ≤ x := hbd.1
      have x1 : x ≤ 65535 := by have := hbd.2; split at this <;> split at this <;> omega
      clear hx hbd hch hS hxb
      rcases Nat.mod_two_eq_zero_or_one i with hm2 | hm2
      · have e2 : (i : Int).tmod 2 = 0 := by rw [Int.tmod_eq_emod_of_nonneg (by omega)]; omega
        rw [hm2, Int.pow_zero, Int.mul_one] at HT
        clear hq hm2
        go_upto_region 5 with fail
        refine wp_region_T [(0, 1), (1, 1), (2, 1), (3, 0), (4, 1), (5, 1), (6, 1), (7, 0), (8, 1), (9, 1), (10, 1), (11, 1), (12, 1), (13, 1), (14, 1), (15, 1), (16, 3)] (by kernel_rfl) (by kernel_rfl) (fun _ _ _ _ h => h) ?_
        go_wp2_with (first | (refine wpT_nil ?_)   | (refine fromT_refl ?_; (try simp only [Act.put, List.setIfInBounds_toArray, List.set_cons_zero, List.set_cons_succ, List.getElem_toArray, List.getElem_cons_succ, List.getElem_cons_zero]))   | (refine fromT_mk (by assumption) ?_; (try simp only [Act.put, List.setIfInBounds_toArray, List.set_cons_zero, List.set_cons_succ, List.getElem_toArray, List.getElem_cons_succ, List.getElem_cons_zero]))   | (refine wpT_pure (v := ?_) rfl rfl ?_ ?_; rotate_left; (intro wx; go_simp; try go_bits) <;> (with_reducible rfl); (try simp only [Act.put, List.setIfInBounds_toArray, List.set_cons_zero, List.set_cons_succ, List.getElem_toArray, List.getElem_cons_succ, List.getElem_cons_zero]))   | (refine wpT_load (v := ?_) rfl rfl rfl ?_ ?_; rotate_left; (go_simp; try go_bits) <;> (with_reducible rfl); (try simp only [Act.put, List.setIfInBounds_toArray, List.set_cons_zero, List.set_cons_succ, List.getElem_toArray, List.getElem_cons_succ, List.getElem_cons_zero]))   | (refine wpT_read (v := ?_) rfl rfl ?_ ?_; rotate_left; (intro wx hx; go_simp; try go_bits) <;> (with_reducible rfl); (try simp only [Act.put, List.setIfInBounds_toArray, List.set_cons_zero, List.set_cons_succ, List.getElem_toArray, List.getElem_cons_succ, List.getElem_cons_zero]))   | (refine wpT_call rfl rfl ?_; intro K hK)   | (refine wpT_late rfl rfl ?_; intro K hK)   | (refine wpT_any rfl rfl ?_; intro K hK)   | (refine wpT_skip rfl rfl ?_; (try simp only [Act.put, List.setIfInBounds_toArray, List.set_cons_zero, List.set_cons_succ, List.getElem_toArray, List.getElem_cons_succ, List.getElem_cons_zero])))
        go_roundw
        case rel =>
          have h3 := HS.out.drew.setCell 0 rfl q (.int .i64 (x + (ch : Int)))
          simp only [List.set_cons_zero, ivs_set] at h3
          rw [HT.out] at h3
          exact ⟨i + 1, by omega, by go_num, h3⟩
        case measure => (simp [intOf]) <;> omega
      · have e2 : (i : Int).tmod 2 = 1 := by rw [Int.tmod_eq_emod_of_nonneg (by omega)]; omega
        rw [hm2, Int.pow_succ, Int.pow_zero, Int.one_mul] at HT
        clear hq hm2
        go_upto_region 5 with fail
        refine wp_region_T [(0, 1), (1, 1), (2, 1), (3, 0), (4, 1), (5, 1), (6, 1), (7, 0), (8, 1), (9, 1), (10, 1), (11, 1), (12, 1), (13, 1), (14, 1), (15, 1), (16, 3)] (by kernel_rfl) (by kernel_rfl) (fun _ _ _ _ h => h) ?_
        go_wp2_with (first | (refine wpT_nil ?_)   | (refine fromT_refl ?_; (try simp only [Act.put, List.setIfInBounds_toArray, List.set_cons_zero, List.set_cons_succ, List.getElem_toArray, List.getElem_cons_succ, List.getElem_cons_zero]))   | (refine fromT_mk (by assumption) ?_; (try simp only [Act.put, List.setIfInBounds_toArray, List.set_cons_zero, List.set_cons_succ, List.getElem_toArray, List.getElem_cons_succ, List.getElem_cons_zero]))   | (refine wpT_pure (v := ?_) rfl rfl ?_ ?_; rotate_left; (intro wx; go_simp; try go_bits) <;> (with_reducible rfl); (try simp only [Act.put, List.setIfInBounds_toArray, List.set_cons_zero, List.set_cons_succ, List.getElem_toArray, List.getElem_cons_succ, List.getElem_cons_zero]))   | (refine wpT_load (v := ?_) rfl rfl rfl ?_ ?_; rotate_left; (go_simp; try go_bits) <;> (with_reducible rfl); (try simp only [Act.put, List.setIfInBounds_toArray, List.set_cons_zero, List.set_cons_succ, List.getElem_toArray, List.getElem_cons_succ, List.getElem_cons_zero]))   | (refine wpT_read (v := ?_) rfl rfl ?_ ?_; rotate_left; (intro wx hx; go_simp; try go_bits) <;> (with_reducible rfl); (try simp only [Act.put, List.setIfInBounds_toArray, List.set_cons_zero, List.set_cons_succ, List.getElem_toArray, List.getElem_cons_succ, List.getElem_cons_zero]))   | (refine wpT_call rfl rfl ?_; intro K hK)   | (refine wpT_late rfl rfl ?_; intro K hK)   | (refine wpT_any rfl rfl ?_; intro K hK)   | (refine wpT_skip rfl rfl ?_; (try simp only [Act.put, List.setIfInBounds_toArray, List.set_cons_zero, List.set_cons_succ, List.getElem_toArray, List.getElem_cons_succ, List.getElem_cons_zero])))
        go_roundw
        case rel =>
          have h3 := HS.out.drew.setCell 0 rfl q (.int .i64 (x + (ch : Int) * 256))
          simp only [List.set_cons_zero, ivs_set] at h3
          rw [HT.out] at h3
          exact ⟨i + 1, by omega, by go_num, h3⟩
        case measure => (simp [intOf]) <;> omega
    · obtain rfl : 32 = i := by omega
      obtain ⟨ra, hra⟩ : ∃ a, a = (ivs (frL l 32)).toArray := ⟨_, rfl⟩
      have hsr : ra.size = 16 := by rw [hra, List.size_toArray, ivs_len, frL_len]
      have hor : ra.all (·.oneCell') = true := by rw [hra]; exact ivs_all _
      rw [← hra] at hS
      have HRA := hide hra
      have HS1 := hide hS
      have HS2 := hide (hS.setRow 1 rfl ra)
      clear hS HS hra
      go_upto_region 7 with fail
      refine wp_region_list ?_
      refine wpList_load_row rfl 41 (.tmp 3) rfl (w.heap.size + 1) rfl 41 ra _ _ (HS1.out.heap 0 rfl) Try.underlying41 rfl (by rw [hsr]; kernel_rfl) ?_
      refine wpList_store_row rfl 41 (.tmp 2) (.tmp 28) rfl w.heap.size ra rfl rfl 41 _ (HS1.out.heap 1 rfl) (by rw [hsr]; kernel_rfl) (by rw [hsr]; rfl) hor ?_
      refine wpList_nil ?_
      go_wp2_with fail
      refine bodyPost_ret (results_cell_row rfl _ _ w.heap.size _ _ _ _ rfl (HS2.out.heap 1 rfl) Try.underlying41 rfl (by rw [hsr]; kernel_rfl)) rfl ?_
      exact ⟨by rw [HRA.out], HS2.out.below⟩
theorem frN_any (A : Option Addr) (n c : Nat) (l : List UInt8) (w : World) (hl : l.length = n) (hn : n ≤ 1000) (hr : Rd w (.slice A n c) 1 n (bvs l)) :
    Calls Try.prog 21 #[.slice A n c] w fun e w' => ∃ xs, NE xs (fbytes l) ∧ e = .returned (.agg (ivs xs).toArray) ∧ Below w.heap.size w w' := by
  have hne := frL_ne l
  rw [hl] at hne
  rcases Nat.lt_or_ge 32 n with h | h
  · rw [Nat.min_eq_right (by omega)] at hne
    exact (frBytes_hi A n c l w hl hn hr h).mono fun e w' he => ⟨_, hne, he⟩
  · rw [Nat.min_eq_left h] at hne
    exact (frBytes_lo A n c l w hl hn hr h).mono fun e w' he => ⟨_, hne, he⟩
theorem ne_small (n : Nat) (h : n < 4294967296) : NB [((n % 65536 : Nat) : Int), ((n / 65536 : Nat) : Int), 0, 0, 0, 0, 0, 0, 0, 0, 0, 0, 0, 0, 0, 0] ∧ nv [((n % 65536 : Nat) : Int), ((n / 65536 : Nat) : Int), 0, 0, 0, 0, 0, 0, 0, 0, 0, 0, 0, 0, 0, 0] = (n : Int) := by
  refine ⟨⟨rfl, fun k x hx => ?_⟩, by simp only [nv]; omega⟩
  match k, hx with
  | 0, hx => simp at hx; subst hx; omega
  | 1, hx => simp at hx; subst hx; omega
  | k + 2, hx =>
    have : x = 0 := by
      have hm := List.mem_of_getElem? hx
      have h2 := List.mem_of_getElem? (l := List.replicate 14 (0 : Int)) (i := k) (a := x) (by simpa using hx)
      exact (List.mem_replicate.1 h2).2
    subst this
    simp
set_option maxRecDepth 100000 in
set_option maxHeartbeats 1600000 in
theorem smallN_any (n : Nat) (w : World) (h : n < 4294967296) :
    Calls Try.prog 27 #[.int .u32 (n : Int)] w fun e w' => e = .returned (.agg (ivs [((n % 65536 : Nat) : Int), ((n / 65536 : Nat) : Int), 0, 0, 0, 0, 0, 0, 0, 0, 0, 0, 0, 0, 0, 0]).toArray) ∧ Below w.heap.size w w' := by
  have e1 : bits .and .u32 (n : Int) 65535 = ((n % 65536 : Nat) : Int) := by
    rw [show n % 65536 = n &&& 65535 from (Nat.and_two_pow_sub_one_eq_mod n 16).symm]
    exact u32_and_nat n 65535 h (by omega)
  have e2 : (n : Int) / 65536 = ((n / 65536 : Nat) : Int) := by omega
  obtain ⟨p, hp⟩ : ∃ p, p = n % 65536 := ⟨_, rfl⟩
  obtain ⟨q, hq⟩ : ∃ q, q = n / 65536 := ⟨_, rfl⟩
  have p1 : (p : Int) < 65536 := by omega
  have q1 : (q : Int) < 65536 := by omega
  rw [← hp] at e1 ⊢
  rw [← hq] at e2 ⊢
  have hN : (n : Int) < 4294967296 := by omega
  clear hp hq h
  go_enter Try.func27, Try.ntmps27
  have HS := hide ((St.init w NoB).alloc (ivs [(p : Int), (q : Int), 0, 0, 0, 0, 0, 0, 0, 0, 0, 0, 0, 0, 0, 0]).toArray 41)
  go_wp2_with fail
  refine bodyPost_ret (results_cell_row rfl _ _ w.heap.size _ _ _ _ rfl (HS.out.heap 0 rfl) Try.underlying41 rfl (by kernel_rfl)) rfl ?_
  exact ⟨rfl, HS.out.below⟩
end Go.Proofs.Ytdihedhhkcakoaa
