/-
  The page's Mul.
-/
import Derived.Test.YtdihedhhkcakoaaNc
namespace Go.Proofs.Ytdihedhhkcakoaa
open Go.RowKit
set_option linter.unusedSimpArgs false

def muR (a : Int) (b : List Int) (i : Nat) : Nat → List Int → List Int
  | 0, t => t
  | j + 1, t => (muR a b i j t).set (i + j) ((muR a b i j t).getD (i + j) 0 + a * b.getD j 0)
def muT (us vs : List Int) : Nat → List Int
  | 0 => List.replicate 31 0
  | i + 1 => muR (us.getD i 0) vs i 16 (muT us vs i)
theorem muR_len (a : Int) (b : List Int) (i : Nat) (t : List Int) : ∀ j, (muR a b i j t).length = t.length
  | 0 => rfl
  | j + 1 => by rw [muR, List.length_set, muR_len a b i t j]
theorem muT_len (us vs : List Int) : ∀ i, (muT us vs i).length = 31
  | 0 => rfl
  | i + 1 => by rw [muT, muR_len, muT_len us vs i]
theorem getD_set (xs : List Int) (k j : Nat) (y : Int) : (xs.set k y).getD j 0 = if k = j ∧ k < xs.length then y else xs.getD j 0 := by
  simp only [List.getD_eq_getElem?_getD, List.getElem?_set]
  split
  · rename_i h
    subst h
    split
    · rename_i h; rw [if_pos ⟨rfl, h⟩]; rfl
    · rename_i h; rw [if_neg (fun x => h x.2), List.getElem?_eq_none (by omega)]
  · rename_i h
    rw [if_neg (fun x => h x.1)]
theorem muR_bd (a : Int) (b : List Int) (i : Nat) (t : List Int) (C M : Int) (hM : 0 ≤ M) (ht : ∀ k, -C ≤ t.getD k 0 ∧ t.getD k 0 ≤ C) (hm : ∀ k, -M ≤ a * b.getD k 0 ∧ a * b.getD k 0 ≤ M) :
    ∀ (j : Nat) (k : Nat), -(C + j * M) ≤ (muR a b i j t).getD k 0 ∧ (muR a b i j t).getD k 0 ≤ C + j * M
  | 0, k => by have := ht k; simp only [muR]; omega
  | j + 1, k => by
    have ih := muR_bd a b i t C M hM ht hm j
    have h1 := ih k
    have h2 := ih (i + j)
    have h3 := hm j
    rw [muR, getD_set]
    have e : ((j + 1 : Nat) : Int) * M = (j : Int) * M + M := by rw [Int.natCast_add, Int.add_mul]; omega
    rw [e]
    split <;> omega
theorem muT_bd (us vs : List Int) (M : Int) (hM : 0 ≤ M) (hm : ∀ i k, -M ≤ us.getD i 0 * vs.getD k 0 ∧ us.getD i 0 * vs.getD k 0 ≤ M) : ∀ (i k : Nat), -(16 * i * M) ≤ (muT us vs i).getD k 0 ∧ (muT us vs i).getD k 0 ≤ 16 * i * M
  | 0, k => by
    have : (List.replicate 31 (0 : Int)).getD k 0 = 0 := by rw [List.getD_eq_getElem?_getD, List.getElem?_replicate]; split <;> rfl
    rw [muT, this]
    omega
  | i + 1, k => by
    have := muR_bd (us.getD i 0) vs i (muT us vs i) (16 * i * M) M hM (muT_bd us vs M hM hm i) (hm i) 16 k
    have e : 16 * ((i + 1 : Nat) : Int) * M = 16 * (i : Int) * M + ((16 : Nat) : Int) * M := by rw [Int.natCast_add, Int.mul_add, Int.add_mul]; rfl
    rw [e]
    exact this
theorem nv_set : ∀ (xs : List Int) (k : Nat) (y : Int), k < xs.length → nv (xs.set k y) = nv xs + (y - xs.getD k 0) * 65536 ^ k
  | [], k, y, h => by simp at h
  | x :: xs, 0, y, h => by simp [nv]; omega
  | x :: xs, k + 1, y, h => by
    have ih := nv_set xs k y (by simpa using h)
    simp only [List.set_cons_succ, nv, List.getD_cons_succ, ih, Int.pow_succ, Int.mul_add]
    rw [show 65536 * ((y - xs.getD k 0) * 65536 ^ k) = (y - xs.getD k 0) * (65536 ^ k * 65536) from by rw [Int.mul_comm 65536, Int.mul_assoc]]
    omega
theorem muR_nv (a : Int) (b : List Int) (i : Nat) (t : List Int) (hb : b.length = 16) : ∀ j, j ≤ 16 → i + j ≤ t.length → nv (muR a b i j t) = nv t + a * 65536 ^ i * nv (b.take j)
  | 0, _, _ => by simp [muR, nv]
  | j + 1, hj, h => by
    have hx : b[j]? = some b[j] := List.getElem?_eq_getElem (by omega)
    rw [muR, nv_set _ _ _ (by rw [muR_len]; omega), muR_nv a b i t hb j (by omega) (by omega), nv_take hx, getD_of hx, Int.pow_add,
      show (muR a b i j t).getD (i + j) 0 + a * b[j] - (muR a b i j t).getD (i + j) 0 = a * b[j] from by omega]
    have : a * b[j] * (65536 ^ i * 65536 ^ j) = a * 65536 ^ i * (b[j] * 65536 ^ j) := by grind
    rw [this, Int.mul_add]
    omega
theorem muT_nv (us vs : List Int) (ha : us.length = 16) (hb : vs.length = 16) : ∀ i, i ≤ 15 + 1 → nv (muT us vs i) = nv (us.take i) * nv vs
  | 0, _ => by simp only [muT, List.take_zero, nv, Int.zero_mul]; decide
  | i + 1, h => by
    have hx : us[i]? = some us[i] := List.getElem?_eq_getElem (by omega)
    rw [muT, muR_nv _ _ _ _ hb 16 (by omega) (by rw [muT_len]; omega), muT_nv us vs ha hb i (by omega), nv_take hx, getD_of hx, List.take_of_length_le (l := vs) (i := 16) (by omega), Int.add_mul]
def oNL (t : List Int) : List Int := List.zipWith (fun x y => x + 38 * y) (t.take 16) (t.drop 16 ++ [0])
theorem nv_zip38 : ∀ (xs ys : List Int), xs.length = ys.length → nv (List.zipWith (fun x y => x + 38 * y) xs ys) = nv xs + 38 * nv ys
  | [], [], _ => rfl
  | x :: xs, y :: ys, h => by
    simp only [List.zipWith_cons_cons, nv, nv_zip38 xs ys (by simpa using h)]
    omega
  | [], _ :: _, h => by simp at h
  | _ :: _, [], h => by simp at h
theorem oNL_len {t : List Int} (h : t.length = 31) : (oNL t).length = 16 := by unfold oNL; rw [List.length_zipWith, List.length_take, List.length_append, List.length_drop, h]; rfl
theorem oNL_nv {t : List Int} (h : t.length = 31) : nv (oNL t) % (Pq : Int) = nv t % (Pq : Int) := by
  have h1 : nv t = nv (t.take 16) + 65536 ^ 16 * nv (t.drop 16) := by
    have := nv_append (t.take 16) (t.drop 16)
    rw [List.take_append_drop, List.length_take, h] at this
    exact this
  have h2 : nv (oNL t) = nv (t.take 16) + 38 * nv (t.drop 16) := by
    unfold oNL
    rw [nv_zip38 _ _ (by rw [List.length_take, List.length_append, List.length_drop, h]; rfl), nv_append]
    simp only [nv]
    omega
  have h3 : nv t = nv (oNL t) + (Pq : Int) * (2 * nv (t.drop 16)) := by
    have := two_pq
    rw [h1, h2, show (65536 : Int) ^ 16 = 2 * (Pq : Int) + 38 from by omega, Int.add_mul]
    have : (Pq : Int) * (2 * nv (t.drop 16)) = 2 * (Pq : Int) * nv (t.drop 16) := by rw [← Int.mul_assoc, Int.mul_comm (Pq : Int) 2]
    omega
  rw [h3, Int.add_mul_emod_self_left]
theorem oNL_get {t : List Int} (h : t.length = 31) {i : Nat} (hi : i < 16) : (oNL t)[i]? = some (t.getD i 0 + 38 * t.getD (i + 16) 0) := by
  have e1 : (t.take 16)[i]? = some (t.getD i 0) := by
    rw [List.getElem?_take_of_lt hi, List.getD_eq_getElem?_getD, List.getElem?_eq_getElem (by omega)]; rfl
  have e2 : (t.drop 16 ++ [0])[i]? = some (t.getD (i + 16) 0) := by
    rcases Nat.lt_or_ge i 15 with h15 | h15
    · rw [List.getElem?_append_left (by rw [List.length_drop]; omega), List.getElem?_drop, Nat.add_comm, List.getD_eq_getElem?_getD, List.getElem?_eq_getElem (by omega)]; rfl
    · obtain rfl : i = 15 := by omega
      rw [List.getElem?_append_right (by rw [List.length_drop, h]; omega), List.length_drop, h, List.getD_eq_getElem?_getD, List.getElem?_eq_none (l := t) (by omega)]
      rfl
  unfold oNL
  rw [List.getElem?_zipWith, e1, e2]
def oNP (t : List Int) (i : Nat) : List Int := (oNL t).take i ++ List.replicate (16 - i) 0
theorem oNP_get {t : List Int} (h : t.length = 31) {i : Nat} (hi : i < 16) : (oNP t i)[i]? = some 0 := by
  unfold oNP
  rw [List.getElem?_append_right (by rw [List.length_take, oNL_len h]; omega), List.length_take, oNL_len h, List.getElem?_replicate, if_pos (by omega)]
theorem oNP_set {t : List Int} (h : t.length = 31) {i : Nat} (hi : i < 16) : (oNP t i).set i (t.getD i 0 + 38 * t.getD (i + 16) 0) = oNP t (i + 1) := by
  unfold oNP
  have hl : ((oNL t).take i).length = i := by rw [List.length_take, oNL_len h]; omega
  rw [List.set_append_right _ _ (by rw [hl]; exact Nat.le_refl _), hl, Nat.sub_self, show 16 - i = (16 - (i + 1)) + 1 from by omega, List.replicate_succ, List.set_cons_zero, List.take_add_one, oNL_get h hi, List.append_assoc]
  rfl
theorem oNP_len {t : List Int} (h : t.length = 31) {i : Nat} (hi : i ≤ 16) : (oNP t i).length = 16 := by
  unfold oNP; rw [List.length_append, List.length_take, oNL_len h, List.length_replicate]; omega
def muN (xs ys : List Int) : List Int := carL (carL (oNL (muT xs ys 16)))
def MuRel (w : World) (xs ys : List Int) (iv : Value) (wr : World) : Prop :=
  ∃ i : Nat, i ≤ 16 ∧ iv = .int .i64 (i : Int) ∧ St w NoB wr [.cells (w.heap.size + 3) (ivs (muT xs ys i)).toArray 62, .cells (w.heap.size + 2) (ivs (List.replicate 16 0)).toArray 41, .cells (w.heap.size + 1) (ivs ys).toArray 41, .cells w.heap.size (ivs xs).toArray 41]
def MvRel (w : World) (xs ys : List Int) (i : Nat) (jv : Value) (wr : World) : Prop :=
  ∃ j : Nat, j ≤ 16 ∧ jv = .int .i64 (j : Int) ∧ St w NoB wr [.cells (w.heap.size + 3) (ivs (muR (xs.getD i 0) ys i j (muT xs ys i))).toArray 62, .cells (w.heap.size + 2) (ivs (List.replicate 16 0)).toArray 41, .cells (w.heap.size + 1) (ivs ys).toArray 41, .cells w.heap.size (ivs xs).toArray 41]
def MoRel (w : World) (xs ys : List Int) (g : Nat) (iv : Value) (wr : World) : Prop :=
  ∃ i : Nat, i ≤ 16 ∧ iv = .int .i64 (i : Int) ∧ St w NoB wr [.cells g (ivs (oNP (muT xs ys 16) i)).toArray 41, .cells (w.heap.size + 3) (ivs (muT xs ys 16)).toArray 62, .cells (w.heap.size + 2) (ivs (List.replicate 16 0)).toArray 41]
theorem nb_getD {xs : List Int} (h : NB xs) (k : Nat) : -76 ≤ xs.getD k 0 ∧ xs.getD k 0 < 65612 := by
  rw [List.getD_eq_getElem?_getD]
  cases hg : xs[k]? with
  | none => simp only [Option.getD_none]; omega
  | some x => have := h.2 k x hg; simp only [Option.getD_some]; split at this <;> omega
theorem nb_prod {xs ys : List Int} (h : NB xs) (h2 : NB ys) (i k : Nat) : -8589934592 ≤ xs.getD i 0 * ys.getD k 0 ∧ xs.getD i 0 * ys.getD k 0 ≤ 8589934592 := by
  have h1 := nb_getD h i
  have h2 := nb_getD h2 k
  generalize xs.getD i 0 = x at *
  generalize ys.getD k 0 = y at *
  have e1 : (x + 76) * (y + 76) = x * y + 76 * x + 76 * y + 5776 := by grind
  have e2 : 0 ≤ (x + 76) * (y + 76) := Int.mul_nonneg (by omega) (by omega)
  have e3 : (x + 76) * (y + 76) ≤ 65688 * 65688 := Int.mul_le_mul (by omega) (by omega) (by omega) (by omega)
  omega
theorem mu_len31 {xs : List Int} {k : Nat} (h : xs.length = 31) (hk : k < 31) : xs[k]? = some (xs.getD k 0) := by
  rw [List.getD_eq_getElem?_getD, List.getElem?_eq_getElem (by omega)]; rfl
theorem len16 {xs : List Int} {k : Nat} (h : xs.length = 16) (hk : k < 16) : xs[k]? = some (xs.getD k 0) := by
  rw [List.getD_eq_getElem?_getD, List.getElem?_eq_getElem (by omega)]; rfl
theorem oNL_bd {t : List Int} (h : t.length = 31) (C : Int) (hC : 0 ≤ C) (ht : ∀ k, -C ≤ t.getD k 0 ∧ t.getD k 0 ≤ C) (k : Nat) (x : Int) (hx : (oNL t)[k]? = some x) : -(39 * C) ≤ x ∧ x ≤ 39 * C := by
  have hk : k < 16 := by have := (List.getElem?_eq_some_iff.1 hx).1; rw [oNL_len h] at this; exact this
  rw [oNL_get h hk] at hx
  injection hx with hx
  have h1 := ht k
  have h2 := ht (k + 16)
  subst hx
  omega
set_option maxRecDepth 100000 in
set_option maxHeartbeats 1600000 in
theorem mulN_any (xs ys : List Int) (w : World) (h : NB xs) (h2 : NB ys) :
    Calls Try.prog 25 #[.agg (ivs xs).toArray, .agg (ivs ys).toArray] w fun e w' => e = .returned (.agg (ivs (muN xs ys)).toArray) ∧ Below w.heap.size w w' := by
  have HN := hide h
  have HM := hide h2
  have HP := hide (nb_prod h h2)
  have HL := hide h.1
  have HL2 := hide h2.1
  have HS0 := ((((St.init w NoB).alloc (ivs xs).toArray 41).alloc (ivs ys).toArray 41).alloc (ivs (List.replicate 16 0)).toArray 41).alloc (ivs (List.replicate 31 0)).toArray 62
  rw [size_alloc1, size_alloc1, size_alloc1] at HS0
  have HS := hide HS0
  have HBD := hide (muT_bd xs ys 8589934592 (by omega) HP.out)
  clear HS0 h h2
  go_enter Try.func25, Try.ntmps25
  go_wp2_with fail
  go_loopw [10] (fun i wr => MuRel w xs ys i wr) (fun i _ => 16 - (intOf i).toNat)
  case atStart => exact ⟨0, by omega, rfl, HS.out⟩
  case round =>
    clear HS
    obtain ⟨i, hi, rfl, hS⟩ := hrel
    have HS := hide hS
    clear hS
    by_cases hlt : i < 16
    · have d16 : decide ((i : Int) < 16) = true := by simp; omega
      have i16 : (i : Int) < 16 := by omega
      go_wp2_with fail
      go_loopw [13] (fun j wr => MvRel w xs ys i j wr) (fun j _ => 16 - (intOf j).toNat)
      case atStart => exact ⟨0, by omega, rfl, HS.out⟩
      case round =>
        clear HS
        obtain ⟨j, hj, rfl, hS⟩ := hrel
        have HS := hide hS
        by_cases hjt : j < 16
        · have j16 : (j : Int) < 16 := by omega
          have e16 : decide ((j : Int) < 16) = true := by simp; omega
          have hP := HP.out i j
          have hC := muR_bd (xs.getD i 0) ys i (muT xs ys i) (16 * i * 8589934592) 8589934592 (by omega) (HBD.out i) (HP.out i) j (i + j)
          obtain ⟨t, ht⟩ : ∃ t, t = (muR (xs.getD i 0) ys i j (muT xs ys i)).getD (i + j) 0 := ⟨_, rfl⟩
          have c2 : wr.drew.cell? ⟨w.heap.size + 3, i + j, none⟩ = some (.int .i64 t) := by rw [hS.drew.cell 0 rfl (i + j), ht]; exact ivs_get (mu_len31 (by rw [muR_len, muT_len]) (by omega))
          have HT := hide (show (muR (xs.getD i 0) ys i j (muT xs ys i)).set (i + j) (t + xs.getD i 0 * ys.getD j 0) = muR (xs.getD i 0) ys i (j + 1) (muT xs ys i) by rw [ht]; rfl)
          rw [← ht] at hC
          have c0 : wr.drew.cell? ⟨w.heap.size, i, none⟩ = some (.int .i64 (xs.getD i 0)) := by rw [hS.drew.cell 3 rfl i]; exact ivs_get (len16 HL.out hlt)
          have c1 : wr.drew.cell? ⟨w.heap.size + 1, j, none⟩ = some (.int .i64 (ys.getD j 0)) := by rw [hS.drew.cell 2 rfl j]; exact ivs_get (len16 HL2.out hjt)
          have f0 := hS.drew.free 0 rfl (i + j)
          have s1 : IntKind.i64.wrap ((i : Int) + (j : Int)) = ((i + j : Nat) : Int) := by rw [IntKind.wrap_i64]; omega
          have s2 : ((i + j : Nat) : Int) < 31 := by omega
          have s3 : (0 : Int) ≤ ((i + j : Nat) : Int) := by omega
          have tb0 : -4398046511104 ≤ t := by omega
          have tb1 : t ≤ 4398046511104 := by omega
          obtain ⟨x0, hx0⟩ : ∃ x, x = xs.getD i 0 := ⟨_, rfl⟩
          obtain ⟨y0, hy0⟩ : ∃ y, y = ys.getD j 0 := ⟨_, rfl⟩
          rw [← hx0] at c0 hP
          rw [← hy0] at c1 hP
          have HT2 := hide (show (muR (xs.getD i 0) ys i j (muT xs ys i)).set (i + j) (t + x0 * y0) = muR (xs.getD i 0) ys i (j + 1) (muT xs ys i) by rw [hx0, hy0]; exact HT.out)
          obtain ⟨pr, hpr⟩ : ∃ p, p = x0 * y0 := ⟨_, rfl⟩
          rw [← hpr] at hP HT2
          have w1 : wrap64 (x0 * y0) = pr := by rw [← hpr]; exact IntWalk.wrap64_in _ ⟨by omega, by omega⟩
          obtain ⟨z, hz⟩ : ∃ z, z = t + pr := ⟨_, rfl⟩
          rw [← hz] at HT2
          have w2 : wrap64 (t + pr) = z := by rw [hz]; exact IntWalk.wrap64_in _ ⟨by omega, by omega⟩
          generalize hij : i + j = ij at *
          clear hC hP hS ht tb0 tb1 hz hpr hij hx0 hy0 HT
          go_upto_region 8 with fail
          refine wp_region_T [(0, 1), (1, 1), (2, 1), (3, 1), (4, 0), (5, 1), (6, 1), (7, 0), (8, 1), (9, 1), (10, 0), (11, 1), (12, 1), (13, 1), (14, 3)] (by kernel_rfl) (by kernel_rfl) (fun _ _ _ _ h => h) ?_
          go_wp2_with (first | (refine wpT_nil ?_)   | (refine fromT_refl ?_; (try simp only [Act.put, List.setIfInBounds_toArray, List.set_cons_zero, List.set_cons_succ, List.getElem_toArray, List.getElem_cons_succ, List.getElem_cons_zero]))   | (refine fromT_mk (by assumption) ?_; (try simp only [Act.put, List.setIfInBounds_toArray, List.set_cons_zero, List.set_cons_succ, List.getElem_toArray, List.getElem_cons_succ, List.getElem_cons_zero]))   | (refine wpT_pure (v := ?_) rfl rfl ?_ ?_; rotate_left; (intro wx; go_simp) <;> (with_reducible rfl); (try simp only [Act.put, List.setIfInBounds_toArray, List.set_cons_zero, List.set_cons_succ, List.getElem_toArray, List.getElem_cons_succ, List.getElem_cons_zero]))   | (refine wpT_load (v := ?_) rfl rfl rfl ?_ ?_; rotate_left; (go_simp) <;> (with_reducible rfl); (try simp only [Act.put, List.setIfInBounds_toArray, List.set_cons_zero, List.set_cons_succ, List.getElem_toArray, List.getElem_cons_succ, List.getElem_cons_zero]))   | (refine wpT_read (v := ?_) rfl rfl ?_ ?_; rotate_left; (intro wx hx; go_simp) <;> (with_reducible rfl); (try simp only [Act.put, List.setIfInBounds_toArray, List.set_cons_zero, List.set_cons_succ, List.getElem_toArray, List.getElem_cons_succ, List.getElem_cons_zero]))   | (refine wpT_call rfl rfl ?_; intro K hK)   | (refine wpT_late rfl rfl ?_; intro K hK)   | (refine wpT_any rfl rfl ?_; intro K hK)   | (refine wpT_skip rfl rfl ?_; (try simp only [Act.put, List.setIfInBounds_toArray, List.set_cons_zero, List.set_cons_succ, List.getElem_toArray, List.getElem_cons_succ, List.getElem_cons_zero])))
          go_roundw
          case rel =>
            have h3 := HS.out.drew.setCell 0 rfl ij (.int .i64 z)
            simp only [List.set_cons_zero, ivs_set] at h3
            rw [HT2.out] at h3
            exact ⟨j + 1, by omega, by go_num, h3⟩
          case measure => (simp [intOf]) <;> omega
        · obtain rfl : j = 16 := by omega
          clear hS
          go_wp2_with fail
          go_roundw
          case rel => exact ⟨i + 1, by omega, by go_num, HS.out⟩
          case measure => (simp [intOf]) <;> omega
    · obtain rfl : i = 16 := by omega
      simp only [Int.cast_ofNat_Int]
      go_wp2_with fail
      have HS3 := hide (show St w NoB _ _ from HS.out.alloc (ivs (List.replicate 16 0)).toArray 41)
      obtain ⟨g, hg⟩ : ∃ g, g = wr.heap.size := ⟨_, rfl⟩
      rw [← hg] at HS3 ⊢
      have hne : g ≠ w.heap.size + 3 := fun e => by
        have := Chunk.lt (HS.out.sat 0 _ rfl) (k := w.heap.size + 3) rfl
        omega
      clear hg HS
      go_loopw [32] (fun i wr => MoRel w xs ys g i wr) (fun i _ => 16 - (intOf i).toNat)
      case atStart => exact ⟨0, by omega, rfl, HS3.out.pickL [0, 1, 2] (by decide) rfl⟩
      case round =>
        clear HS3
        obtain ⟨i, hi, rfl, hS⟩ := hrel
        have HS := hide hS
        have hT31 := muT_len xs ys 16
        have hB16 := HBD.out 16
        obtain ⟨tt, htt⟩ : ∃ t, t = muT xs ys 16 := ⟨_, rfl⟩
        rw [← htt] at hS hT31 hB16
        by_cases hlt : i < 16
        · have d16 : decide ((i : Int) < 16) = true := by simp; omega
          have i16 : (i : Int) < 16 := by omega
          have q1 := hB16 i
          have q2 := hB16 (i + 16)
          have HT := hide (oNP_set hT31 hlt)
          have c0 : wr.cell? ⟨w.heap.size + 3, i, none⟩ = some (.int .i64 (tt.getD i 0)) := by rw [hS.cell 1 rfl i]; exact ivs_get (mu_len31 hT31 (by omega))
          have c2 : wr.cell? ⟨g, i, none⟩ = some (.int .i64 0) := by rw [hS.cell 0 rfl i]; exact ivs_get (oNP_get hT31 hlt)
          have f0 := hS.free 0 rfl i
          have hne' : w.heap.size + 3 ≠ g := fun e => hne e.symm
          by_cases h15 : i < 15
          · have d15 : decide ((i : Int) < 15) = true := by simp; omega
            have i15 : (i : Int) < 15 := by omega
            have c1 : wr.cell? ⟨w.heap.size + 3, i + 16, none⟩ = some (.int .i64 (tt.getD (i + 16) 0)) := by rw [hS.cell 1 rfl (i + 16)]; exact ivs_get (mu_len31 hT31 (by omega))
            obtain ⟨k, hk⟩ : ∃ k, k = i + 16 := ⟨_, rfl⟩
            rw [← hk] at c1
            have HK := hide hk
            have s1 : wrap64 ((i : Int) + 16) = (k : Int) := by rw [hk]; exact IntWalk.wrap64_in _ ⟨by omega, by omega⟩
            have s2 : IntKind.i64.wrap ((i : Int) + 16) = (k : Int) := by rw [IntKind.wrap_i64]; omega
            have k31 : (k : Int) < 31 := by omega
            clear hk
            have HH := hide htt
            obtain ⟨x, hx⟩ : ∃ x, x = tt.getD i 0 := ⟨_, rfl⟩
            obtain ⟨y, hy⟩ : ∃ y, y = tt.getD (i + 16) 0 := ⟨_, rfl⟩
            rw [← hx] at q1 c0
            rw [HK.out] at c1
            rw [← hy] at q2 c1
            rw [← HK.out] at c1
            have HX := hide hx
            have HY := hide hy
            have x0 : -4398046511104 ≤ x := by omega
            have x1 : x ≤ 4398046511104 := by omega
            have y0 : -4398046511104 ≤ y := by omega
            have y1 : y ≤ 4398046511104 := by omega
            clear hx hy htt q1 q2 hB16 hT31 hS
            go_upto_region 17 with fail
            refine wp_region_T [(0, 1), (1, 1), (2, 0), (3, 1), (4, 1), (5, 1), (6, 0), (7, 1), (8, 1), (9, 1), (10, 3)] (by kernel_rfl) (by kernel_rfl) (fun _ _ _ _ h => h) ?_
            go_wp2_with (first | (refine wpT_nil ?_)   | (refine fromT_refl ?_; (try simp only [Act.put, List.setIfInBounds_toArray, List.set_cons_zero, List.set_cons_succ, List.getElem_toArray, List.getElem_cons_succ, List.getElem_cons_zero]))   | (refine fromT_mk (by assumption) ?_; (try simp only [Act.put, List.setIfInBounds_toArray, List.set_cons_zero, List.set_cons_succ, List.getElem_toArray, List.getElem_cons_succ, List.getElem_cons_zero]))   | (refine wpT_pure (v := ?_) rfl rfl ?_ ?_; rotate_left; (intro wx; go_simp) <;> (with_reducible rfl); (try simp only [Act.put, List.setIfInBounds_toArray, List.set_cons_zero, List.set_cons_succ, List.getElem_toArray, List.getElem_cons_succ, List.getElem_cons_zero]))   | (refine wpT_load (v := ?_) rfl rfl rfl ?_ ?_; rotate_left; (go_simp) <;> (with_reducible rfl); (try simp only [Act.put, List.setIfInBounds_toArray, List.set_cons_zero, List.set_cons_succ, List.getElem_toArray, List.getElem_cons_succ, List.getElem_cons_zero]))   | (refine wpT_read (v := ?_) rfl rfl ?_ ?_; rotate_left; (intro wx hx; go_simp) <;> (with_reducible rfl); (try simp only [Act.put, List.setIfInBounds_toArray, List.set_cons_zero, List.set_cons_succ, List.getElem_toArray, List.getElem_cons_succ, List.getElem_cons_zero]))   | (refine wpT_call rfl rfl ?_; intro K hK)   | (refine wpT_late rfl rfl ?_; intro K hK)   | (refine wpT_any rfl rfl ?_; intro K hK)   | (refine wpT_skip rfl rfl ?_; (try simp only [Act.put, List.setIfInBounds_toArray, List.set_cons_zero, List.set_cons_succ, List.getElem_toArray, List.getElem_cons_succ, List.getElem_cons_zero])))
            go_roundw
            case rel =>
              have h3 := ((HS.out.setCell 0 rfl i (.int .i64 x)).drew).setCell 0 rfl i (.int .i64 (x + 38 * y))
              simp only [List.set_cons_zero, ivs_set, List.set_set] at h3
              have e : (oNP (muT xs ys 16) i).set i (x + 38 * y) = oNP (muT xs ys 16) (i + 1) := by rw [← HH.out, HX.out, HY.out, HT.out]
              rw [e] at h3
              exact ⟨i + 1, by omega, by go_num, h3⟩
            case measure => (simp [intOf]) <;> omega
          · obtain rfl : i = 15 := by omega
            have HH := hide htt
            obtain ⟨x, hx⟩ : ∃ x, x = tt.getD 15 0 := ⟨_, rfl⟩
            have h31 : tt.getD (15 + 16) 0 = 0 := by rw [List.getD_eq_getElem?_getD, List.getElem?_eq_none (by omega)]; rfl
            have HT2 := hide (show (oNP tt 15).set 15 x = oNP tt 16 by have := HT.out; rw [h31, Int.mul_zero, Int.add_zero, ← hx] at this; exact this)
            rw [← hx] at c0
            clear hx htt q1 q2 hB16 hT31 hS h31 HT
            go_wp2_with fail
            go_roundw
            case rel =>
              have h3 := HS.out.setCell 0 rfl 15 (.int .i64 x)
              simp only [List.set_cons_zero, ivs_set] at h3
              have e : (oNP (muT xs ys 16) 15).set 15 x = oNP (muT xs ys 16) 16 := by rw [← HH.out, HT2.out]
              rw [e] at h3
              exact ⟨16, by omega, by go_num, h3⟩
            case measure => (simp [intOf]) <;> omega
        · obtain rfl : i = 16 := by omega
          have hO : oNP tt 16 = oNL tt := by unfold oNP; rw [List.take_of_length_le (by rw [oNL_len hT31]; omega)]; simp
          rw [hO] at hS
          have hC1 := carL_long (oNL tt) 171523813933056 (by omega) (by omega) (fun k x hx => by
            have := oNL_bd hT31 4398046511104 (by omega) (fun k => by have := hB16 k; omega) k x hx
            omega)
          have hA1 : CyB (oNL tt) := by
            have hb0 := oNL_bd hT31 4398046511104 (by omega) (fun k => by have := hB16 k; omega)
            have hb := ky_bd (oNL tt) 171523813933056 (by omega) (fun k x hx => by have := hb0 k x hx; omega)
            refine ⟨oNL_len hT31, fun i => ?_, by have := hb 16; omega, by have := hb 16; omega⟩
            have := hb i
            have hx : -171523813933056 ≤ (oNL tt).getD i 0 ∧ (oNL tt).getD i 0 ≤ 171523813933056 := by
              rw [List.getD_eq_getElem?_getD]
              cases hg : (oNL tt)[i]? with
              | none => simp only [Option.getD_none]; omega
              | some x => have := hb0 i x hg; simp only [Option.getD_some]; omega
            omega
          have hA2 : CyB (carL (oNL tt)) := by
            have hb := ky_bd (carL (oNL tt)) 288230376151711744 (by omega) (fun k x hx => by have := hC1 k x hx; split at this <;> omega)
            have hn := carL_nb2 (carL (oNL tt)) hC1
            refine ⟨carL_len _, fun i => ?_, ?_⟩
            · have := hb i
              have hx : -288230376151711744 ≤ (carL (oNL tt)).getD i 0 ∧ (carL (oNL tt)).getD i 0 ≤ 288230376151711744 := by
                rw [List.getD_eq_getElem?_getD]
                cases hg : (carL (oNL tt))[i]? with
                | none => simp only [Option.getD_none]; omega
                | some x => have := hC1 i x hg; simp only [Option.getD_some]; split at this <;> omega
              omega
            · have h0 := hn.2 0 _ (carL_get (carL (oNL tt)) 0 (by omega))
              have hd := dy_bd (carL (oNL tt)) 0
              rw [if_pos rfl, if_pos rfl, if_pos rfl] at h0
              omega
          have HA1 := hide (fun W => carry_any (oNL tt) W hA1)
          have HA2 := hide (fun W => carry_any (carL (oNL tt)) W hA2)
          have HE := hide (show muN xs ys = carL (carL (oNL tt)) by unfold muN; rw [htt])
          obtain ⟨ys', hys'⟩ : ∃ a, a = (ivs (oNL tt)).toArray := ⟨_, rfl⟩
          have hsz : ys'.size = 16 := by rw [hys', List.size_toArray, ivs_len]; exact hA1.1
          obtain ⟨rr, hrr⟩ : ∃ r, r = (ivs (carL (carL (oNL tt)))).toArray := ⟨_, rfl⟩
          have hone : rr.all (·.oneCell') = true := by rw [hrr]; exact ivs_all _
          have hsc : rr.size = 16 := by rw [hrr, List.size_toArray, ivs_len, carL_len]
          have HR := hide hrr
          rw [← hrr] at HA2
          rw [← hys'] at hS HA1
          have HS1 := hide hS
          clear hS hys' HS hO hC1 hA1 hA2 htt hB16 hT31 hrr
          go_upto_region 19 with fail
          refine wp_region_list ?_
          refine wpList_load_row rfl 41 (.tmp 8) rfl g rfl 41 ys' _ _ (HS1.out.heap 0 rfl) Try.underlying41 rfl (by rw [hsz]; kernel_rfl) ?_
          refine wl_callN rfl rfl enCarryN rfl (HA1.out _) ?_
          rintro e w1 ⟨rfl, hb1⟩
          refine ⟨_, rfl, ?_⟩
          refine wl_callN rfl rfl enCarryN rfl (HA2.out _) ?_
          rintro e w2 ⟨rfl, hb2⟩
          refine ⟨_, rfl, ?_⟩
          have HS2 := hide ((HS1.out.call hb1).call hb2)
          have HS3 := hide (HS2.out.setRow 2 rfl rr)
          refine wpList_store_row rfl 41 (.tmp 4) (.tmp 55) rfl (w.heap.size + 2) rr rfl rfl 41 _ (HS2.out.heap 2 rfl) (by rw [hsc]; kernel_rfl) (by rw [hsc]; rfl) hone ?_
          refine wpList_nil ?_
          go_wp2_with fail
          refine bodyPost_ret (results_cell_row rfl _ _ (w.heap.size + 2) _ _ _ _ rfl (HS3.out.heap 2 rfl) Try.underlying41 rfl (by rw [hsc]; kernel_rfl)) rfl ?_
          exact ⟨by rw [HE.out, HR.out], HS3.out.below⟩
/-- The product, as the page keeps it. -/
theorem muN_ok {xs ys : List Int} (h : NB xs) (h2 : NB ys) : NB (muN xs ys) ∧ nv (muN xs ys) % (Pq : Int) = nv xs * nv ys % (Pq : Int) := by
  have hT31 := muT_len xs ys 16
  have hB16 := muT_bd xs ys 8589934592 (by omega) (nb_prod h h2) 16
  have hC1 := carL_long (oNL (muT xs ys 16)) 171523813933056 (by omega) (by omega) (fun k x hx => by
    have := oNL_bd hT31 4398046511104 (by omega) (fun k => by have := hB16 k; omega) k x hx
    omega)
  refine ⟨carL_nb2 _ hC1, ?_⟩
  have hv := muT_nv xs ys h.1 h2.1 16 (by omega)
  rw [List.take_of_length_le (by rw [h.1]; omega)] at hv
  unfold muN
  rw [carL_mod _ (carL_len _), carL_mod _ (oNL_len hT31), oNL_nv hT31, hv]
end Go.Proofs.Ytdihedhhkcakoaa
