/-
  Layer 7: the page's Compare and Same.
-/
import Derived.Test.YthpioncehigoaaaTe
set_option linter.unusedVariables false
namespace Go.Proofs.Ythpioncehigoaaa
open Go.RowKit
set_option linter.unusedSimpArgs false

theorem cmp0_k {t u : Tm} (h : t.k ≠ u.k) : cmp0 t u = sgn (decide (t.k < u.k)) := by
  unfold cmp0 orI sgn cmpI
  by_cases h1 : t.k < u.k
  · simp [h1]
  · have : u.k < t.k := by omega
    simp [h1, this]
theorem cmp0_n {t u : Tm} (hk : t.k = u.k) (h : t.n ≠ u.n) : cmp0 t u = sgn (decide (t.n < u.n)) := by
  unfold cmp0 orI sgn cmpI
  rw [hk]
  by_cases h1 : t.n < u.n
  · simp [h1]
  · have : u.n < t.n := by omega
    simp [h1, this]
theorem cmp0_s {t u : Tm} (hk : t.k = u.k) (hn : t.n = u.n) (h : t.s ≠ u.s) : cmp0 t u = sgn (Op.bytesLess t.s u.s) := by
  have e1 : cmpI t.k u.k = 0 := by rw [hk]; exact cmpI_ord.self _
  have e2 : cmpI t.n u.n = 0 := by rw [hn]; exact cmpI_ord.self _
  unfold cmp0 orI
  rw [if_pos e1, if_pos e2]
  unfold sgn
  rcases bl_tri t.s u.s with h1 | h1 | h1
  · rw [if_pos h1, cmpS_lt.2 h1]
  · exact absurd h1 h
  · rw [if_neg (bl_no h1), cmpS_gt.2 h1]
theorem cmp0_z {t u : Tm} (hk : t.k = u.k) (hn : t.n = u.n) (h : t.s = u.s) : cmp0 t u = 0 := by
  unfold cmp0
  rw [hk, hn, h, cmpI_ord.self, cmpI_ord.self, cmpS_ord.self]
  rfl
theorem sgn_ne (b : Bool) : sgn b ≠ 0 := by cases b <;> decide
set_option maxRecDepth 100000 in
set_option maxHeartbeats 800000 in
theorem cmpRh_any (t u : Tm) (d : Int) (w : World) (h : cmp0 t u ≠ 0) : Calls Try.prog 77 #[t.val, u.val, .int .i64 d] w fun e w' => e = .returned (.int .i64 (cmp0 t u)) ∧ Below w.heap.size w w' := by
  by_cases hk : t.k = u.k
  · by_cases hn : t.n = u.n
    · by_cases hs : t.s = u.s
      · exact absurd (cmp0_z hk hn hs) h
      · rw [cmp0_s hk hn hs]
        have H := hide (fun W => signR_any (Op.bytesLess t.s u.s) W)
        unfold Tm.val Tm.row
        have q1 : (t.k != u.k) = false := by simp [hk]
        have q2 : (t.n != u.n) = false := by simp [hn]
        have q3 : (t.s == u.s) = false := by simp [hs]
        clear h hk hn hs
        go_enter Try.func77, Try.ntmps77
        go_wp2_with (go_at_call 80; (refine (H.out _).mono ?_); rintro e w' ⟨rfl, rfl⟩)
        go_ret
        exact ⟨rfl, ((Below.refl _ _).al _).al _⟩
    · rw [cmp0_n hk hn]
      have H := hide (fun W => signR_any (decide (t.n < u.n)) W)
      unfold Tm.val Tm.row
      have q1 : (t.k != u.k) = false := by simp [hk]
      have q2 : (t.n != u.n) = true := by simp [hn]
      clear h hk hn
      go_enter Try.func77, Try.ntmps77
      go_wp2_with (go_at_call 80; (refine (H.out _).mono ?_); rintro e w' ⟨rfl, rfl⟩)
      go_ret
      exact ⟨rfl, ((Below.refl _ _).al _).al _⟩
  · rw [cmp0_k hk]
    have H := hide (fun W => signR_any (decide (t.k < u.k)) W)
    unfold Tm.val Tm.row
    have q1 : (t.k != u.k) = true := by simp [hk]
    clear h hk
    go_enter Try.func77, Try.ntmps77
    go_wp2_with (go_at_call 80; (refine (H.out _).mono ?_); rintro e w' ⟨rfl, rfl⟩)
    go_ret
    exact ⟨rfl, ((Below.refl _ _).al _).al _⟩
theorem cmp0_eqs {t u : Tm} (h : cmp0 t u = 0) : t.k = u.k ∧ t.n = u.n ∧ t.s = u.s := by
  by_cases hk : t.k = u.k
  · by_cases hn : t.n = u.n
    · by_cases hs : t.s = u.s
      · exact ⟨hk, hn, hs⟩
      · rw [cmp0_s hk hn hs] at h
        exact absurd h (sgn_ne _)
    · rw [cmp0_n hk hn] at h
      exact absurd h (sgn_ne _)
  · rw [cmp0_k hk] at h
    exact absurd h (sgn_ne _)
set_option maxRecDepth 100000 in
set_option maxHeartbeats 800000 in
theorem cmpR0_any (t u : Tm) (w : World) (h : cmp0 t u = 0) : Calls Try.prog 77 #[t.val, u.val, .int .i64 0] w fun e w' => e = .returned (.int .i64 0) ∧ Below w.heap.size w w' := by
  obtain ⟨hk, hn, hs⟩ := cmp0_eqs h
  unfold Tm.val Tm.row
  rw [hk, hn, hs]
  clear h hk hn hs
  go_enter Try.func77, Try.ntmps77
  go_wp2_with fail
  go_ret
  exact ⟨rfl, ((Below.refl _ _).al _).al _⟩
set_option maxRecDepth 100000 in
set_option maxHeartbeats 1600000 in
theorem cmpR_step (d : Nat) (hd : d ≤ 100) (ih : ∀ (t u : Tm) (w : World), TmOK w t → TmOK w u → Calls Try.prog 77 #[t.val, u.val, .int .i64 (d : Int)] w fun e w' => e = .returned (.int .i64 (cmpT d t u)) ∧ Below w.heap.size w w')
    (t u : Tm) (w : World) (ht : TmOK w t) (hu : TmOK w u) (h : cmp0 t u = 0) : Calls Try.prog 77 #[t.val, u.val, .int .i64 ((d : Int) + 1)] w fun e w' => e = .returned (.int .i64 (cmpL (cmpT d) t.l u.l)) ∧ Below w.heap.size w w' := by
  obtain ⟨hk, hn, hs⟩ := cmp0_eqs h
  have HA := hide ht.rd
  have HB := hide hu.rd
  have HIH := hide (fun x (hx : x ∈ t.l) y (hy : y ∈ u.l) W (hW : Below w.heap.size w W) => ih x y W ((ht.kid hx).on hW) ((hu.kid hy).on hW))
  have hm1 := ht.rd.le
  have hm2 := hu.rd.le
  unfold maxLen at hm1 hm2
  clear ih ht hu h
  unfold Tm.val
  unfold Tm.row at *
  rw [hk, hn, hs]
  clear hk hn hs
  have dd : (((d : Int) + 1) == 0) = false := by simp; omega
  generalize u.k = uk
  generalize u.n = un
  generalize u.s = us
  generalize t.A = A at HA ⊢
  generalize t.c = c at HA ⊢
  generalize u.A = B at HB ⊢
  generalize u.c = e at HB ⊢
  generalize t.l = xs at HA HIH hm1 ⊢
  generalize u.l = ys at HB HIH hm2 ⊢
  obtain ⟨n, hn⟩ : ∃ n, n = xs.length := ⟨_, rfl⟩
  obtain ⟨m, hm⟩ : ∃ m, m = ys.length := ⟨_, rfl⟩
  rw [← hn] at HA hm1 ⊢
  rw [← hm] at HB hm2 ⊢
  have HN := hide hn
  have HM := hide hm
  clear hn hm
  obtain ⟨w2, hw2⟩ : ∃ w2, w2 = (w.alloc (.cells #[.int .i64 uk, .int .i64 un, .string (strOf us), .slice A n c] 62)).alloc (.cells #[.int .i64 uk, .int .i64 un, .string (strOf us), .slice B m e] 62) := ⟨_, rfl⟩
  have b2 : Below w.heap.size w w2 := by rw [hw2]; exact ((Below.refl _ _).al _).al _
  have hS : St w NoB w2 [.cells (w.alloc (.cells #[.int .i64 uk, .int .i64 un, .string (strOf us), .slice A n c] 62)).heap.size #[.int .i64 uk, .int .i64 un, .string (strOf us), .slice B m e] 62, .cells w.heap.size #[.int .i64 uk, .int .i64 un, .string (strOf us), .slice A n c] 62] := by
    rw [hw2]
    exact ((St.init w NoB).alloc _ _).alloc _ _
  rw [size_alloc1] at hS
  have HS := hide hS
  have HW2 := hide hw2
  have HB2 := hide b2
  clear hS hw2 b2
  go_enter Try.func77, Try.ntmps77
  go_wp2_with fail
  go_loopw [52] (fun i wr => ∃ k : Nat, k ≤ n ∧ i = .int .i64 (k : Int) ∧ Hid (k ≤ m ∧ cmpL (cmpT d) (xs.drop k) (ys.drop k) = cmpL (cmpT d) xs ys) ∧ Hid (Below w2.heap.size w2 wr)) (fun i _ => (n - intOf i).toNat)
  case atStart => exact ⟨0, by omega, rfl, hide ⟨by omega, rfl⟩, hide (by rw [HW2.out]; exact Below.refl _ _)⟩
  case round =>
    obtain ⟨k, hk, rfl, HX, HW⟩ := hrel
    have HSr := hide (HS.out.call HW.out)
    have HWw := hide (HB2.out.trans (HW.out.mono HB2.out.size))
    have f3 : wr.cell? ⟨w.heap.size, 3, none⟩ = some (.slice A n c) := HSr.out.cell 1 rfl 3
    have g3 : wr.cell? ⟨w.heap.size + 1, 3, none⟩ = some (.slice B m e) := HSr.out.cell 0 rfl 3
    have hsz := HSr.out.sat 0 _ rfl
    have s1 : w.heap.size + 1 < wr.heap.size := World.block_lt_of_cell? _ _ g3
    clear hsz
    by_cases hlt : k < n
    · have hd' : decide ((k : Int) < (n : Int)) = true := by simp; omega
      have k1 : k < xs.length := by have := HN.out; omega
      obtain ⟨b, o, rfl, hb8, hc⟩ := tm_at HA.out (List.getElem?_eq_getElem k1)
      obtain ⟨c0, c1, c2, c3⟩ := hc _ HWw.out
      by_cases hlm : k < m
      · have k2 : k < ys.length := by have := HM.out; omega
        obtain ⟨b', o', rfl, hb8', hc'⟩ := tm_at HB.out (List.getElem?_eq_getElem k2)
        obtain ⟨e0, e1, e2, e3⟩ := hc' _ HWw.out
        have dm : decide ((m : Int) ≤ (k : Int)) = false := by simp; omega
        have dm' : decide (m ≤ k) = false := by simp; omega
        have hs := HX.out.2
        rw [List.drop_eq_getElem_cons k1, List.drop_eq_getElem_cons k2, cmpL, orI] at hs
        have HX1 := hide hs
        have HC := hide (fun W hW => HIH.out xs[k] (List.getElem_mem k1) ys[k] (List.getElem_mem k2) W hW)
        have m1 := HX.out.1
        clear hs hc hc'
        generalize xs[k] = x at c0 c1 c2 c3 HX1 HC
        generalize ys[k] = y at e0 e1 e2 e3 HX1 HC
        have b1 : b < wr.heap.size := by omega
        have b2 : b' < wr.heap.size := by omega
        obtain ⟨z, hz⟩ : ∃ z, z = cmpT d x y := ⟨_, rfl⟩
        rw [← hz] at HX1 HC
        have HL := hide hlt
        have HL2 := hide hlm
        have ikm : (k : Int) < (m : Int) := by omega
        have ikm' : k < m := hlm
        clear hlt k1 k2 hz m1
        unfold Tm.row at c3 e3
        unfold Tm.val Tm.row at HC
        by_cases hz : z = 0
        · have q1 : (z != 0) = false := by simp [hz]
          have HX2 : Hid (cmpL (cmpT d) (xs.drop (k + 1)) (ys.drop (k + 1)) = cmpL (cmpT d) xs ys) := by
            have := HX1.out
            rw [if_pos hz] at this
            exact this
          clear hz
          go_wp2_with fail
          refine wp_region_T [(0, 0), (1, 1), (2, 0), (3, 1), (4, 1), (5, 0), (6, 1), (7, 1), (8, 2), (9, 1)] (by kernel_rfl) (by kernel_rfl) (fun _ _ _ _ h => h) ?_
          go_wp2_with (first
            | (refine wpT_nil ?_)   | ((with_reducible refine fromT_refl ?_); (try simp only [Act.put, nq1, nq2, nq3, nq4, nq5, nq6]))   | ((with_reducible refine fromT_mk (by assumption) ?_); (try simp only [Act.put, nq1, nq2, nq3, nq4, nq5, nq6]))   | (refine wpT_pure (v := ?_) rfl rfl ?_ ?_; rotate_left; (intro wx; go_simp; try go_bits) <;> (with_reducible rfl); (try simp only [Act.put, nq1, nq2, nq3, nq4, nq5, nq6]))   | (refine wpT_load (v := ?_) rfl rfl rfl ?_ ?_; rotate_left; (go_simp; try go_bits) <;> (with_reducible rfl); (try simp only [Act.put, nq1, nq2, nq3, nq4, nq5, nq6]))   | (refine wpT_read (v := ?_) rfl rfl ?_ ?_; rotate_left; (intro wx hx; go_simp; try go_bits) <;> (with_reducible rfl); (try simp only [Act.put, nq1, nq2, nq3, nq4, nq5, nq6]))   | (refine wpT_call rfl rfl ?_; intro K hK)   | (refine wpT_late rfl rfl ?_; intro K hK)   | (refine wpT_any rfl rfl ?_; intro K hK)   | (refine wpT_skip rfl rfl ?_; (try simp only [Act.put, nq1, nq2, nq3, nq4, nq5, nq6]))
            | (go_at_call 77; (with_reducible refine (HC.out _ ((HWw.out.al _).drew)).mono ?_); rintro e w' ⟨rfl, hb⟩; have HW2 := hide ((HW.out.al _).drew.trans (hb.mono (HW.out.al _).drew.size)))
            | (with_reducible refine fromT_mk hb ?_))
          go_roundw
          case rel => exact ⟨k + 1, by have := HL.out; omega, by go_num, hide ⟨by have := HL2.out; omega, HX2.out⟩, HW2⟩
          case measure => (have := HL.out); (simp [intOf]) <;> omega
        · have q1 : (z != 0) = true := by simp [hz]
          have HX2 : Hid (z = cmpL (cmpT d) xs ys) := by
            have := HX1.out
            rw [if_neg hz] at this
            exact this
          clear hz HX1
          go_wp2_with fail
          refine wp_region_T [(0, 0), (1, 1), (2, 0), (3, 1), (4, 1), (5, 0), (6, 1), (7, 1), (8, 2), (9, 1)] (by kernel_rfl) (by kernel_rfl) (fun _ _ _ _ h => h) ?_
          go_wp2_with (first
            | (refine wpT_nil ?_)   | ((with_reducible refine fromT_refl ?_); (try simp only [Act.put, nq1, nq2, nq3, nq4, nq5, nq6]))   | ((with_reducible refine fromT_mk (by assumption) ?_); (try simp only [Act.put, nq1, nq2, nq3, nq4, nq5, nq6]))   | (refine wpT_pure (v := ?_) rfl rfl ?_ ?_; rotate_left; (intro wx; go_simp; try go_bits) <;> (with_reducible rfl); (try simp only [Act.put, nq1, nq2, nq3, nq4, nq5, nq6]))   | (refine wpT_load (v := ?_) rfl rfl rfl ?_ ?_; rotate_left; (go_simp; try go_bits) <;> (with_reducible rfl); (try simp only [Act.put, nq1, nq2, nq3, nq4, nq5, nq6]))   | (refine wpT_read (v := ?_) rfl rfl ?_ ?_; rotate_left; (intro wx hx; go_simp; try go_bits) <;> (with_reducible rfl); (try simp only [Act.put, nq1, nq2, nq3, nq4, nq5, nq6]))   | (refine wpT_call rfl rfl ?_; intro K hK)   | (refine wpT_late rfl rfl ?_; intro K hK)   | (refine wpT_any rfl rfl ?_; intro K hK)   | (refine wpT_skip rfl rfl ?_; (try simp only [Act.put, nq1, nq2, nq3, nq4, nq5, nq6]))
            | (go_at_call 77; (with_reducible refine (HC.out _ ((HWw.out.al _).drew)).mono ?_); rintro e w' ⟨rfl, hb⟩; have HW2 := hide ((HWw.out.al _).drew.trans (hb.mono (HWw.out.al _).drew.size)))
            | (with_reducible refine fromT_mk hb ?_))
          go_ret
          rw [← HX2.out]
          exact ⟨rfl, HW2.out⟩
      · have dm : decide ((m : Int) ≤ (k : Int)) = true := by simp; omega
        have dm' : decide (m ≤ k) = true := by simp; omega
        have hx : cmpL (cmpT d) xs ys = 1 := by
          rw [← HX.out.2, List.drop_eq_getElem_cons k1, List.drop_of_length_le (l := ys) (by have := HM.out; omega)]
          rfl
        have HX2 := hide hx
        generalize xs[k] = x at c0 c1 c2 c3
        clear hx hc k1
        unfold Tm.row at c3
        have b1 : b < wr.heap.size := by have := HWw.out.size; omega
        go_wp2_with fail
        go_ret
        rw [HX2.out]
        exact ⟨rfl, HWw.out.al _⟩
    · have hd' : decide ((k : Int) < (n : Int)) = false := by simp; omega
      obtain rfl : k = n := by omega
      by_cases hlm : k < m
      · have dm : decide ((k : Int) < (m : Int)) = true := by simp; omega
        have dm' : decide (k < m) = true := by simp; omega
        have hx : cmpL (cmpT d) xs ys = -1 := by
          have k2 : k < ys.length := by have := HM.out; omega
          rw [← HX.out.2, List.drop_eq_getElem_cons k2, List.drop_of_length_le (l := xs) (by have := HN.out; omega)]
          rfl
        have HX2 := hide hx
        clear hx
        go_wp2_with fail
        go_ret
        rw [HX2.out]
        exact ⟨rfl, HWw.out⟩
      · have dm : decide ((k : Int) < (m : Int)) = false := by simp; omega
        have dm' : decide (k < m) = false := by simp; omega
        have hx : cmpL (cmpT d) xs ys = 0 := by
          rw [← HX.out.2, List.drop_of_length_le (l := ys) (by have := HM.out; omega), List.drop_of_length_le (l := xs) (by have := HN.out; omega)]
          rfl
        have HX2 := hide hx
        clear hx
        go_wp2_with fail
        go_ret
        rw [HX2.out]
        exact ⟨rfl, HWw.out⟩
theorem cmpR_any : ∀ (d : Nat), d ≤ 100 → ∀ (t u : Tm) (w : World), TmOK w t → TmOK w u → Calls Try.prog 77 #[t.val, u.val, .int .i64 (d : Int)] w fun e w' => e = .returned (.int .i64 (cmpT d t u)) ∧ Below w.heap.size w w'
  | 0, _, t, u, w, _, _ => by
    by_cases h : cmp0 t u = 0
    · rw [cmpT, h]
      exact cmpR0_any t u w h
    · exact cmpRh_any t u 0 w h
  | d + 1, hd, t, u, w, ht, hu => by
    rw [show ((d + 1 : Nat) : Int) = (d : Int) + 1 by omega, cmpT]
    by_cases h : cmp0 t u = 0
    · rw [h]
      exact cmpR_step d (by omega) (fun t u w ht hu => cmpR_any d (by omega) t u w ht hu) t u w ht hu h
    · unfold orI
      rw [if_neg h]
      exact cmpRh_any t u _ w h
end Go.Proofs.Ythpioncehigoaaa
