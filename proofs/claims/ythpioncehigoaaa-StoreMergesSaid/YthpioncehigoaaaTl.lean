/-
  Layer 7: the terms of a set, gone through by the page; May and Fixed of any term.
-/
import Derived.Test.YthpioncehigoaaaTk
set_option linter.unusedVariables false
namespace Go.Proofs.Ythpioncehigoaaa
open Go.RowKit
set_option linter.unusedSimpArgs false

set_option maxRecDepth 100000 in
set_option maxHeartbeats 1600000 in
theorem maySet_step (t : Tm) (w : World) (hok : TmOK w t) (hf : ∀ x ∈ t.l, ∀ W, Below w.heap.size w W → Calls Try.prog 57 #[x.val] W fun e w' => e = .returned (.bool (mayT x)) ∧ Below W.heap.size W w') :
    Calls Try.prog 73 #[t.val] w fun e w' => e = .returned (.bool (decide (t.n = 0) && ((t.s == []) && risT t.l))) ∧ Below w.heap.size w w' := by
  have HA := hide hok.rd
  have hm := hok.bd.2.2.2
  have HOK := hide (fun x (hx : x ∈ t.l) => hok.kid hx)
  have HF := hide hf
  clear hok hf
  unfold Tm.val
  unfold Tm.row at *
  generalize t.A = A at HA ⊢
  generalize t.c = c at HA ⊢
  generalize t.k = tk
  generalize t.n = tn
  generalize t.s = ts
  generalize t.l = l at HA hm HOK HF ⊢
  clear t
  obtain ⟨n, hn⟩ : ∃ n, n = l.length := ⟨_, rfl⟩
  rw [← hn] at HA hm ⊢
  have HN := hide hn
  clear hn
  obtain ⟨z, hz⟩ : ∃ b, decide (tn = 0) = b := ⟨_, rfl⟩
  have z2 : (tn != 0) = !z := by rw [← hz, Bool.eq_iff_iff]; simp
  obtain ⟨es, he⟩ : ∃ b, (ts == []) = b := ⟨_, rfl⟩
  rw [hz, he]
  cases z
  · simp only [Bool.not_false] at z2
    go_enter Try.func73, Try.ntmps73
    go_wp2_with fail
    go_ret
    exact ⟨rfl, (Below.refl _ _).al _⟩
  simp only [Bool.not_true] at z2
  cases es
  · go_enter Try.func73, Try.ntmps73
    go_wp2_with fail
    go_ret
    exact ⟨rfl, (Below.refl _ _).al _⟩
  by_cases h16 : 16 < n
  · have d : decide (16 < (n : Int)) = true := by simp; omega
    have d' : decide (16 < n) = true := by simp; omega
    have HF2 : Hid (risT l = false) := hide (risT_no fun r => by have := r.len; have := HN.out; omega)
    rw [HF2.out]
    go_enter Try.func73, Try.ntmps73
    go_wp2_with fail
    go_ret
    exact ⟨rfl, (Below.refl _ _).al _⟩
  have d : decide (16 < (n : Int)) = false := by simp; omega
  have d' : decide (16 < n) = false := by simp; omega
  have HRV : Hid ((true && (true && risT l)) = risT l) := rfl
  go_enter Try.func73, Try.ntmps73
  go_wp2_with fail
  go_loopw [22] (fun i wr => ∃ k : Nat, k ≤ n ∧ i = .int .i64 (k : Int) ∧ Hid (RisK l k) ∧ Hid (St w NoB wr [.cells w.heap.size #[.int .i64 tk, .int .i64 tn, .string (strOf ts), .slice A n c] 62])) (fun i _ => (n - intOf i).toNat)
  case atStart => exact ⟨0, by omega, rfl, hide (RisK.zero l), hide ((St.init w NoB).alloc _ _)⟩
  case round =>
    obtain ⟨k, hk, rfl, HK, HSr⟩ := hrel
    have HW := hide HSr.out.below
    have gg := HSr.out.cell 0 rfl 3
    by_cases hlt : k < n
    · have hd : decide ((k : Int) < (n : Int)) = true := by simp; omega
      have hkl : k < l.length := by have := HN.out; omega
      have h0l : 0 < l.length := by omega
      have HX := hide (show l[k]? = some l[k] from List.getElem?_eq_getElem hkl)
      have HY0 := hide (show l[0]? = some l[0] from List.getElem?_eq_getElem h0l)
      obtain ⟨b, o, rfl, hb8, hc⟩ := tm_at HA.out HX.out
      obtain ⟨c0, c1, c2, c3⟩ := hc _ HW.out
      obtain ⟨b', o', e', _, hc'⟩ := tm_at HA.out HY0.out
      injection e' with e'
      injection e' with e1' e2'
      subst e1' e2'
      have HFX := hide (HF.out l[k] (List.getElem_mem hkl))
      have HOX := hide (HOK.out l[k] (List.getElem_mem hkl))
      generalize l[k] = x at c0 c1 c2 c3 HX HFX HOX
      generalize l[0] = y at hc' HY0
      have HY : Hid (∀ w', Below w.heap.size w w' → w'.cell? ⟨b, o, none⟩ = some (.int .i64 y.k) ∧ True) := hide (fun w' hw => ⟨by have := (hc' w' hw).1; rw [Nat.zero_mul, Nat.add_zero] at this; exact this, trivial⟩)
      clear hc hc'
      have hbr : b < wr.heap.size := by have := HW.out.size; omega
      have HL := hide hlt
      have kn : (k : Int) < (n : Int) := by omega
      have n0 : (0 : Int) < (n : Int) := by omega
      have n0' : 0 < n := by omega
      have kn' : k < n := hlt
      have hsz := World.block_lt_of_cell? _ _ gg
      have hsz : w.heap.size < wr.heap.size := hsz
      clear hkl h0l
      by_cases hp : 0 < k
      · have hpl : k - 1 < l.length := by have := HN.out; omega
        have HPX := hide (show l[k - 1]? = some l[k - 1] from List.getElem?_eq_getElem hpl)
        obtain ⟨b', o', e', _, hcp⟩ := tm_at HA.out HPX.out
        injection e' with e'
        injection e' with e1' e2'
        subst e1' e2'
        have HOP := hide (HOK.out l[k - 1] (List.getElem_mem hpl))
        generalize l[k - 1] = p at hcp HPX HOP
        have HCP := hide (fun W hW => compareR_any p x W (HOP.out.on hW) (HOX.out.on hW))
        have dp : decide ((0 : Int) < (k : Int)) = true := by simp; omega
        have ek : (k : Int) - 1 = ((k - 1 : Nat) : Int) := by omega
        have kp : ((k - 1 : Nat) : Int) < (n : Int) := by omega
        have kp' : k - 1 < n := by omega
        have dp' : decide (0 < k) = true := by simp; omega
        have HCC := hide hcp
        have HKP := hide hp
        clear hcp hpl hp
        have q1 : ((x.k : Int) == 1) = decide (x.k = 1) := by rw [Bool.eq_iff_iff]; simp
        have q7 : ((x.k : Int) == 7) = decide (x.k = 7) := by rw [Bool.eq_iff_iff]; simp
        have qn : ((x.k : Int) != y.k) = decide (x.k ≠ y.k) := by rw [Bool.eq_iff_iff]; simp
        by_cases h1 : x.k = 1
        · rw [decide_eq_true h1] at q1
          have HF2 : Hid (risT l = false) := hide (risT_no (RisP.bad_each HX.out fun h => h.2.1 h1))
          clear h1
          unfold Tm.val Tm.row at HFX HCP
          unfold Tm.row at c3
          generalize x.n = xn at *
          generalize x.s = xs at *
          generalize x.A = xA at *
          generalize x.c = xc at *
          generalize x.l.length = xm at *
          generalize hxk : x.k = xk at *
          clear hxk
          go_wp2_with fail
          refine wp_region_T [(0, 1), (1, 0), (2, 1), (3, 1), (4, 1), (5, 0), (6, 1), (7, 1), (8, 1), (9, 0), (10, 2), (11, 1), (12, 1), (13, 1), (14, 1), (15, 1), (16, 1), (17, 1), (18, 0), (19, 1), (20, 0), (21, 1), (22, 1), (23, 0), (24, 1), (25, 1), (26, 1), (27, 0), (28, 1), (29, 1), (30, 1), (31, 0), (32, 0), (33, 2), (34, 1), (35, 1), (36, 1), (37, 1)] (by kernel_rfl) (by kernel_rfl) (fun _ _ _ _ h => h) ?_
          go_wp2_with (first
  | (refine wpT_nil ?_)   | ((with_reducible refine fromT_refl ?_); (try simp only [Act.put, nq1, nq2, nq3, nq4, nq5, nq6]))   | ((with_reducible refine fromT_mk (by assumption) ?_); (try simp only [Act.put, nq1, nq2, nq3, nq4, nq5, nq6]))   | (refine wpT_pure (v := ?_) rfl rfl ?_ ?_; rotate_left; (intro wx; go_simp; try go_bits) <;> (with_reducible rfl); (try simp only [Act.put, nq1, nq2, nq3, nq4, nq5, nq6]))   | (refine wpT_load (v := ?_) rfl rfl rfl ?_ ?_; rotate_left; (go_simp; try go_bits) <;> (with_reducible rfl); (try simp only [Act.put, nq1, nq2, nq3, nq4, nq5, nq6]))   | (refine wpT_read (v := ?_) rfl rfl ?_ ?_; rotate_left; (intro wx hx; go_simp; try go_bits) <;> (with_reducible rfl); (try simp only [Act.put, nq1, nq2, nq3, nq4, nq5, nq6]))   | (refine wpT_call rfl rfl ?_; intro K hK)   | (refine wpT_late rfl rfl ?_; intro K hK)   | (refine wpT_any rfl rfl ?_; intro K hK)   | (refine wpT_skip rfl rfl ?_; (try simp only [Act.put, nq1, nq2, nq3, nq4, nq5, nq6]))
  | (go_at_call 57; (with_reducible refine (HFX.out _ ((HW.out.al _).drew)).mono ?_); rintro e w' ⟨rfl, hb⟩; have hS1 := (HSr.out.alloc #[.int .i64 xk, .int .i64 xn, .string (strOf xs), .slice xA xm xc] 62).drew.call hb; have k0 := hS1.cell 0 rfl 0; have k1 := hS1.cell 0 rfl 1; have k2 := hS1.cell 0 rfl 2; have k3 := hS1.cell 0 rfl 3; have g3 := hS1.cell 1 rfl 3; have HS1 := hide hS1.tail; have HW1 := hide hS1.below; have y0 := (HY.out _ HW1.out).1; clear hS1)
  | (go_at_call 67; (with_reducible refine (HCP.out _ HW1.out).mono ?_); rintro e w2 ⟨rfl, hb2⟩; have HS1 := hide (HS1.out.call hb2); have HW1 := hide (HW1.out.trans (hb2.mono HW1.out.size))))
          go_ret
          rw [HF2.out]
          exact ⟨rfl, (HW.out.al _).drew⟩
        · rw [decide_eq_false h1] at q1
          by_cases h7 : x.k = 7
          · rw [decide_eq_true h7] at q7
            have HF2 : Hid (risT l = false) := hide (risT_no (RisP.bad_each HX.out fun h => h.2.2 h7))
            clear h7
            unfold Tm.val Tm.row at HFX HCP
            unfold Tm.row at c3
            generalize x.n = xn at *
            generalize x.s = xs at *
            generalize x.A = xA at *
            generalize x.c = xc at *
            generalize x.l.length = xm at *
            generalize hxk : x.k = xk at *
            clear hxk
            go_wp2_with fail
            refine wp_region_T [(0, 1), (1, 0), (2, 1), (3, 1), (4, 1), (5, 0), (6, 1), (7, 1), (8, 1), (9, 0), (10, 2), (11, 1), (12, 1), (13, 1), (14, 1), (15, 1), (16, 1), (17, 1), (18, 0), (19, 1), (20, 0), (21, 1), (22, 1), (23, 0), (24, 1), (25, 1), (26, 1), (27, 0), (28, 1), (29, 1), (30, 1), (31, 0), (32, 0), (33, 2), (34, 1), (35, 1), (36, 1), (37, 1)] (by kernel_rfl) (by kernel_rfl) (fun _ _ _ _ h => h) ?_
            go_wp2_with (first
  | (refine wpT_nil ?_)   | ((with_reducible refine fromT_refl ?_); (try simp only [Act.put, nq1, nq2, nq3, nq4, nq5, nq6]))   | ((with_reducible refine fromT_mk (by assumption) ?_); (try simp only [Act.put, nq1, nq2, nq3, nq4, nq5, nq6]))   | (refine wpT_pure (v := ?_) rfl rfl ?_ ?_; rotate_left; (intro wx; go_simp; try go_bits) <;> (with_reducible rfl); (try simp only [Act.put, nq1, nq2, nq3, nq4, nq5, nq6]))   | (refine wpT_load (v := ?_) rfl rfl rfl ?_ ?_; rotate_left; (go_simp; try go_bits) <;> (with_reducible rfl); (try simp only [Act.put, nq1, nq2, nq3, nq4, nq5, nq6]))   | (refine wpT_read (v := ?_) rfl rfl ?_ ?_; rotate_left; (intro wx hx; go_simp; try go_bits) <;> (with_reducible rfl); (try simp only [Act.put, nq1, nq2, nq3, nq4, nq5, nq6]))   | (refine wpT_call rfl rfl ?_; intro K hK)   | (refine wpT_late rfl rfl ?_; intro K hK)   | (refine wpT_any rfl rfl ?_; intro K hK)   | (refine wpT_skip rfl rfl ?_; (try simp only [Act.put, nq1, nq2, nq3, nq4, nq5, nq6]))
  | (go_at_call 57; (with_reducible refine (HFX.out _ ((HW.out.al _).drew)).mono ?_); rintro e w' ⟨rfl, hb⟩; have hS1 := (HSr.out.alloc #[.int .i64 xk, .int .i64 xn, .string (strOf xs), .slice xA xm xc] 62).drew.call hb; have k0 := hS1.cell 0 rfl 0; have k1 := hS1.cell 0 rfl 1; have k2 := hS1.cell 0 rfl 2; have k3 := hS1.cell 0 rfl 3; have g3 := hS1.cell 1 rfl 3; have HS1 := hide hS1.tail; have HW1 := hide hS1.below; have y0 := (HY.out _ HW1.out).1; clear hS1)
  | (go_at_call 67; (with_reducible refine (HCP.out _ HW1.out).mono ?_); rintro e w2 ⟨rfl, hb2⟩; have HS1 := hide (HS1.out.call hb2); have HW1 := hide (HW1.out.trans (hb2.mono HW1.out.size))))
            go_ret
            rw [HF2.out]
            exact ⟨rfl, (HW.out.al _).drew⟩
          · rw [decide_eq_false h7] at q7
            by_cases hf : mayT x = true
            · rw [hf] at HFX
              have HE := hide (show mayE x = true ∧ x.k ≠ 1 ∧ x.k ≠ 7 from ⟨by rw [← mayT_e h7]; exact hf, h1, h7⟩)
              by_cases hn : x.k = y.k
              · rw [decide_eq_false (by simp [hn])] at qn
                obtain ⟨z, hz⟩ : ∃ z, z = cmpA p x := ⟨_, rfl⟩
                rw [← hz] at HCP
                by_cases hc : z < 0
                · have qc : decide (0 ≤ z) = false := by simp; omega
                  have HK1 : Hid (RisK l (k + 1)) := hide (HK.out.next HX.out HY0.out HE.out hn (fun p' h hp' => by
                    have h2 := HPX.out
                    rw [hp'] at h2
                    injection h2 with h2
                    subst h2
                    rw [← hz]
                    exact hc))
                  clear hz hn h7 h1
                  unfold Tm.val Tm.row at HFX HCP
                  unfold Tm.row at c3
                  generalize x.n = xn at *
                  generalize x.s = xs at *
                  generalize x.A = xA at *
                  generalize x.c = xc at *
                  generalize x.l.length = xm at *
                  generalize hxk : x.k = xk at *
                  clear hxk
                  go_wp2_with fail
                  refine wp_region_T [(0, 1), (1, 0), (2, 1), (3, 1), (4, 1), (5, 0), (6, 1), (7, 1), (8, 1), (9, 0), (10, 2), (11, 1), (12, 1), (13, 1), (14, 1), (15, 1), (16, 1), (17, 1), (18, 0), (19, 1), (20, 0), (21, 1), (22, 1), (23, 0), (24, 1), (25, 1), (26, 1), (27, 0), (28, 1), (29, 1), (30, 1), (31, 0), (32, 0), (33, 2), (34, 1), (35, 1), (36, 1), (37, 1)] (by kernel_rfl) (by kernel_rfl) (fun _ _ _ _ h => h) ?_
                  go_wp2_with (first
  | (refine wpT_nil ?_)   | ((with_reducible refine fromT_refl ?_); (try simp only [Act.put, nq1, nq2, nq3, nq4, nq5, nq6]))   | ((with_reducible refine fromT_mk (by assumption) ?_); (try simp only [Act.put, nq1, nq2, nq3, nq4, nq5, nq6]))   | (refine wpT_pure (v := ?_) rfl rfl ?_ ?_; rotate_left; (intro wx; go_simp; try go_bits) <;> (with_reducible rfl); (try simp only [Act.put, nq1, nq2, nq3, nq4, nq5, nq6]))   | (refine wpT_load (v := ?_) rfl rfl rfl ?_ ?_; rotate_left; (go_simp; try go_bits) <;> (with_reducible rfl); (try simp only [Act.put, nq1, nq2, nq3, nq4, nq5, nq6]))   | (refine wpT_read (v := ?_) rfl rfl ?_ ?_; rotate_left; (intro wx hx; go_simp; try go_bits) <;> (with_reducible rfl); (try simp only [Act.put, nq1, nq2, nq3, nq4, nq5, nq6]))   | (refine wpT_call rfl rfl ?_; intro K hK)   | (refine wpT_late rfl rfl ?_; intro K hK)   | (refine wpT_any rfl rfl ?_; intro K hK)   | (refine wpT_skip rfl rfl ?_; (try simp only [Act.put, nq1, nq2, nq3, nq4, nq5, nq6]))
  | (go_at_call 57; (with_reducible refine (HFX.out _ ((HW.out.al _).drew)).mono ?_); rintro e w' ⟨rfl, hb⟩; have hS1 := (HSr.out.alloc #[.int .i64 xk, .int .i64 xn, .string (strOf xs), .slice xA xm xc] 62).drew.call hb; have k0 := hS1.cell 0 rfl 0; have k1 := hS1.cell 0 rfl 1; have k2 := hS1.cell 0 rfl 2; have k3 := hS1.cell 0 rfl 3; have g3 := hS1.cell 1 rfl 3; have HS1 := hide hS1.tail; have HW1 := hide hS1.below; have y0 := (HY.out _ HW1.out).1; obtain ⟨p0, p1, p2, p3⟩ := HCC.out _ HW1.out; unfold Tm.row at p3; clear hS1)
  | (go_at_call 67; (with_reducible refine (HCP.out _ HW1.out).mono ?_); rintro e w2 ⟨rfl, hb2⟩; have HS1 := hide (HS1.out.call hb2); have HW1 := hide (HW1.out.trans (hb2.mono HW1.out.size))))
                  go_roundw
                  case rel => exact ⟨k + 1, by have := HL.out; omega, by go_num, HK1, HS1⟩
                  case measure => (have := HL.out); (simp [intOf]) <;> omega
                · have qc : decide (0 ≤ z) = true := by simp; omega
                  have HF2 : Hid (risT l = false) := hide (risT_no (RisP.bad_up HKP.out HPX.out HX.out (by rw [← hz]; exact hc)))
                  clear hz hn h7 h1
                  unfold Tm.val Tm.row at HFX HCP
                  unfold Tm.row at c3
                  generalize x.n = xn at *
                  generalize x.s = xs at *
                  generalize x.A = xA at *
                  generalize x.c = xc at *
                  generalize x.l.length = xm at *
                  generalize hxk : x.k = xk at *
                  clear hxk
                  go_wp2_with fail
                  refine wp_region_T [(0, 1), (1, 0), (2, 1), (3, 1), (4, 1), (5, 0), (6, 1), (7, 1), (8, 1), (9, 0), (10, 2), (11, 1), (12, 1), (13, 1), (14, 1), (15, 1), (16, 1), (17, 1), (18, 0), (19, 1), (20, 0), (21, 1), (22, 1), (23, 0), (24, 1), (25, 1), (26, 1), (27, 0), (28, 1), (29, 1), (30, 1), (31, 0), (32, 0), (33, 2), (34, 1), (35, 1), (36, 1), (37, 1)] (by kernel_rfl) (by kernel_rfl) (fun _ _ _ _ h => h) ?_
                  go_wp2_with (first
  | (refine wpT_nil ?_)   | ((with_reducible refine fromT_refl ?_); (try simp only [Act.put, nq1, nq2, nq3, nq4, nq5, nq6]))   | ((with_reducible refine fromT_mk (by assumption) ?_); (try simp only [Act.put, nq1, nq2, nq3, nq4, nq5, nq6]))   | (refine wpT_pure (v := ?_) rfl rfl ?_ ?_; rotate_left; (intro wx; go_simp; try go_bits) <;> (with_reducible rfl); (try simp only [Act.put, nq1, nq2, nq3, nq4, nq5, nq6]))   | (refine wpT_load (v := ?_) rfl rfl rfl ?_ ?_; rotate_left; (go_simp; try go_bits) <;> (with_reducible rfl); (try simp only [Act.put, nq1, nq2, nq3, nq4, nq5, nq6]))   | (refine wpT_read (v := ?_) rfl rfl ?_ ?_; rotate_left; (intro wx hx; go_simp; try go_bits) <;> (with_reducible rfl); (try simp only [Act.put, nq1, nq2, nq3, nq4, nq5, nq6]))   | (refine wpT_call rfl rfl ?_; intro K hK)   | (refine wpT_late rfl rfl ?_; intro K hK)   | (refine wpT_any rfl rfl ?_; intro K hK)   | (refine wpT_skip rfl rfl ?_; (try simp only [Act.put, nq1, nq2, nq3, nq4, nq5, nq6]))
  | (go_at_call 57; (with_reducible refine (HFX.out _ ((HW.out.al _).drew)).mono ?_); rintro e w' ⟨rfl, hb⟩; have hS1 := (HSr.out.alloc #[.int .i64 xk, .int .i64 xn, .string (strOf xs), .slice xA xm xc] 62).drew.call hb; have k0 := hS1.cell 0 rfl 0; have k1 := hS1.cell 0 rfl 1; have k2 := hS1.cell 0 rfl 2; have k3 := hS1.cell 0 rfl 3; have g3 := hS1.cell 1 rfl 3; have HS1 := hide hS1.tail; have HW1 := hide hS1.below; have y0 := (HY.out _ HW1.out).1; obtain ⟨p0, p1, p2, p3⟩ := HCC.out _ HW1.out; unfold Tm.row at p3; clear hS1)
  | (go_at_call 67; (with_reducible refine (HCP.out _ HW1.out).mono ?_); rintro e w2 ⟨rfl, hb2⟩; have HS1 := hide (HS1.out.call hb2); have HW1 := hide (HW1.out.trans (hb2.mono HW1.out.size))))
                  go_ret
                  rw [HF2.out]
                  exact ⟨rfl, HW1.out⟩
              · rw [decide_eq_true hn] at qn
                have HF2 : Hid (risT l = false) := hide (risT_no (RisP.bad_kind HX.out HY0.out hn))
                clear hn h7 h1
                unfold Tm.val Tm.row at HFX HCP
                unfold Tm.row at c3
                generalize x.n = xn at *
                generalize x.s = xs at *
                generalize x.A = xA at *
                generalize x.c = xc at *
                generalize x.l.length = xm at *
                generalize hxk : x.k = xk at *
                clear hxk
                go_wp2_with fail
                refine wp_region_T [(0, 1), (1, 0), (2, 1), (3, 1), (4, 1), (5, 0), (6, 1), (7, 1), (8, 1), (9, 0), (10, 2), (11, 1), (12, 1), (13, 1), (14, 1), (15, 1), (16, 1), (17, 1), (18, 0), (19, 1), (20, 0), (21, 1), (22, 1), (23, 0), (24, 1), (25, 1), (26, 1), (27, 0), (28, 1), (29, 1), (30, 1), (31, 0), (32, 0), (33, 2), (34, 1), (35, 1), (36, 1), (37, 1)] (by kernel_rfl) (by kernel_rfl) (fun _ _ _ _ h => h) ?_
                go_wp2_with (first
  | (refine wpT_nil ?_)   | ((with_reducible refine fromT_refl ?_); (try simp only [Act.put, nq1, nq2, nq3, nq4, nq5, nq6]))   | ((with_reducible refine fromT_mk (by assumption) ?_); (try simp only [Act.put, nq1, nq2, nq3, nq4, nq5, nq6]))   | (refine wpT_pure (v := ?_) rfl rfl ?_ ?_; rotate_left; (intro wx; go_simp; try go_bits) <;> (with_reducible rfl); (try simp only [Act.put, nq1, nq2, nq3, nq4, nq5, nq6]))   | (refine wpT_load (v := ?_) rfl rfl rfl ?_ ?_; rotate_left; (go_simp; try go_bits) <;> (with_reducible rfl); (try simp only [Act.put, nq1, nq2, nq3, nq4, nq5, nq6]))   | (refine wpT_read (v := ?_) rfl rfl ?_ ?_; rotate_left; (intro wx hx; go_simp; try go_bits) <;> (with_reducible rfl); (try simp only [Act.put, nq1, nq2, nq3, nq4, nq5, nq6]))   | (refine wpT_call rfl rfl ?_; intro K hK)   | (refine wpT_late rfl rfl ?_; intro K hK)   | (refine wpT_any rfl rfl ?_; intro K hK)   | (refine wpT_skip rfl rfl ?_; (try simp only [Act.put, nq1, nq2, nq3, nq4, nq5, nq6]))
  | (go_at_call 57; (with_reducible refine (HFX.out _ ((HW.out.al _).drew)).mono ?_); rintro e w' ⟨rfl, hb⟩; have hS1 := (HSr.out.alloc #[.int .i64 xk, .int .i64 xn, .string (strOf xs), .slice xA xm xc] 62).drew.call hb; have k0 := hS1.cell 0 rfl 0; have k1 := hS1.cell 0 rfl 1; have k2 := hS1.cell 0 rfl 2; have k3 := hS1.cell 0 rfl 3; have g3 := hS1.cell 1 rfl 3; have HS1 := hide hS1.tail; have HW1 := hide hS1.below; have y0 := (HY.out _ HW1.out).1; clear hS1)
  | (go_at_call 67; (with_reducible refine (HCP.out _ HW1.out).mono ?_); rintro e w2 ⟨rfl, hb2⟩; have HS1 := hide (HS1.out.call hb2); have HW1 := hide (HW1.out.trans (hb2.mono HW1.out.size))))
                go_ret
                rw [HF2.out]
                exact ⟨rfl, HW1.out⟩
            · have hff : mayT x = false := by simpa using hf
              rw [hff] at HFX
              have HF2 : Hid (risT l = false) := hide (risT_no (RisP.bad_each HX.out fun h => hf (by rw [mayT_e h.2.2]; exact h.1)))
              clear h1 h7
              unfold Tm.val Tm.row at HFX HCP
              unfold Tm.row at c3
              generalize x.n = xn at *
              generalize x.s = xs at *
              generalize x.A = xA at *
              generalize x.c = xc at *
              generalize x.l.length = xm at *
              generalize hxk : x.k = xk at *
              clear hxk
              go_wp2_with fail
              refine wp_region_T [(0, 1), (1, 0), (2, 1), (3, 1), (4, 1), (5, 0), (6, 1), (7, 1), (8, 1), (9, 0), (10, 2), (11, 1), (12, 1), (13, 1), (14, 1), (15, 1), (16, 1), (17, 1), (18, 0), (19, 1), (20, 0), (21, 1), (22, 1), (23, 0), (24, 1), (25, 1), (26, 1), (27, 0), (28, 1), (29, 1), (30, 1), (31, 0), (32, 0), (33, 2), (34, 1), (35, 1), (36, 1), (37, 1)] (by kernel_rfl) (by kernel_rfl) (fun _ _ _ _ h => h) ?_
              go_wp2_with (first
  | (refine wpT_nil ?_)   | ((with_reducible refine fromT_refl ?_); (try simp only [Act.put, nq1, nq2, nq3, nq4, nq5, nq6]))   | ((with_reducible refine fromT_mk (by assumption) ?_); (try simp only [Act.put, nq1, nq2, nq3, nq4, nq5, nq6]))   | (refine wpT_pure (v := ?_) rfl rfl ?_ ?_; rotate_left; (intro wx; go_simp; try go_bits) <;> (with_reducible rfl); (try simp only [Act.put, nq1, nq2, nq3, nq4, nq5, nq6]))   | (refine wpT_load (v := ?_) rfl rfl rfl ?_ ?_; rotate_left; (go_simp; try go_bits) <;> (with_reducible rfl); (try simp only [Act.put, nq1, nq2, nq3, nq4, nq5, nq6]))   | (refine wpT_read (v := ?_) rfl rfl ?_ ?_; rotate_left; (intro wx hx; go_simp; try go_bits) <;> (with_reducible rfl); (try simp only [Act.put, nq1, nq2, nq3, nq4, nq5, nq6]))   | (refine wpT_call rfl rfl ?_; intro K hK)   | (refine wpT_late rfl rfl ?_; intro K hK)   | (refine wpT_any rfl rfl ?_; intro K hK)   | (refine wpT_skip rfl rfl ?_; (try simp only [Act.put, nq1, nq2, nq3, nq4, nq5, nq6]))
  | (go_at_call 57; (with_reducible refine (HFX.out _ ((HW.out.al _).drew)).mono ?_); rintro e w' ⟨rfl, hb⟩; have hS1 := (HSr.out.alloc #[.int .i64 xk, .int .i64 xn, .string (strOf xs), .slice xA xm xc] 62).drew.call hb; have k0 := hS1.cell 0 rfl 0; have k1 := hS1.cell 0 rfl 1; have k2 := hS1.cell 0 rfl 2; have k3 := hS1.cell 0 rfl 3; have g3 := hS1.cell 1 rfl 3; have HS1 := hide hS1.tail; have HW1 := hide hS1.below; have y0 := (HY.out _ HW1.out).1; clear hS1)
  | (go_at_call 67; (with_reducible refine (HCP.out _ HW1.out).mono ?_); rintro e w2 ⟨rfl, hb2⟩; have HS1 := hide (HS1.out.call hb2); have HW1 := hide (HW1.out.trans (hb2.mono HW1.out.size))))
              go_ret
              rw [HF2.out]
              exact ⟨rfl, HW1.out⟩
      · have HKP := hide hp
        have dp : decide ((0 : Int) < (k : Int)) = false := by simp; omega
        have dp' : decide (0 < k) = false := by simp; omega
        clear hp
        have q1 : ((x.k : Int) == 1) = decide (x.k = 1) := by rw [Bool.eq_iff_iff]; simp
        have q7 : ((x.k : Int) == 7) = decide (x.k = 7) := by rw [Bool.eq_iff_iff]; simp
        have qn : ((x.k : Int) != y.k) = decide (x.k ≠ y.k) := by rw [Bool.eq_iff_iff]; simp
        by_cases h1 : x.k = 1
        · rw [decide_eq_true h1] at q1
          have HF2 : Hid (risT l = false) := hide (risT_no (RisP.bad_each HX.out fun h => h.2.1 h1))
          clear h1
          unfold Tm.val Tm.row at HFX
          unfold Tm.row at c3
          generalize x.n = xn at *
          generalize x.s = xs at *
          generalize x.A = xA at *
          generalize x.c = xc at *
          generalize x.l.length = xm at *
          generalize hxk : x.k = xk at *
          clear hxk
          go_wp2_with fail
          refine wp_region_T [(0, 1), (1, 0), (2, 1), (3, 1), (4, 1), (5, 0), (6, 1), (7, 1), (8, 1), (9, 0), (10, 2), (11, 1), (12, 1), (13, 1), (14, 1), (15, 1), (16, 1), (17, 1), (18, 0), (19, 1), (20, 0), (21, 1), (22, 1), (23, 0), (24, 1), (25, 1), (26, 1), (27, 0), (28, 1), (29, 1), (30, 1), (31, 0), (32, 0), (33, 2), (34, 1), (35, 1), (36, 1), (37, 1)] (by kernel_rfl) (by kernel_rfl) (fun _ _ _ _ h => h) ?_
          go_wp2_with (first
  | (refine wpT_nil ?_)   | ((with_reducible refine fromT_refl ?_); (try simp only [Act.put, nq1, nq2, nq3, nq4, nq5, nq6]))   | ((with_reducible refine fromT_mk (by assumption) ?_); (try simp only [Act.put, nq1, nq2, nq3, nq4, nq5, nq6]))   | (refine wpT_pure (v := ?_) rfl rfl ?_ ?_; rotate_left; (intro wx; go_simp; try go_bits) <;> (with_reducible rfl); (try simp only [Act.put, nq1, nq2, nq3, nq4, nq5, nq6]))   | (refine wpT_load (v := ?_) rfl rfl rfl ?_ ?_; rotate_left; (go_simp; try go_bits) <;> (with_reducible rfl); (try simp only [Act.put, nq1, nq2, nq3, nq4, nq5, nq6]))   | (refine wpT_read (v := ?_) rfl rfl ?_ ?_; rotate_left; (intro wx hx; go_simp; try go_bits) <;> (with_reducible rfl); (try simp only [Act.put, nq1, nq2, nq3, nq4, nq5, nq6]))   | (refine wpT_call rfl rfl ?_; intro K hK)   | (refine wpT_late rfl rfl ?_; intro K hK)   | (refine wpT_any rfl rfl ?_; intro K hK)   | (refine wpT_skip rfl rfl ?_; (try simp only [Act.put, nq1, nq2, nq3, nq4, nq5, nq6]))
  | (go_at_call 57; (with_reducible refine (HFX.out _ ((HW.out.al _).drew)).mono ?_); rintro e w' ⟨rfl, hb⟩; have hS1 := (HSr.out.alloc #[.int .i64 xk, .int .i64 xn, .string (strOf xs), .slice xA xm xc] 62).drew.call hb; have k0 := hS1.cell 0 rfl 0; have k1 := hS1.cell 0 rfl 1; have k2 := hS1.cell 0 rfl 2; have k3 := hS1.cell 0 rfl 3; have g3 := hS1.cell 1 rfl 3; have HS1 := hide hS1.tail; have HW1 := hide hS1.below; have y0 := (HY.out _ HW1.out).1; clear hS1)
  | (go_at_call 67; (with_reducible refine (HCP.out _ HW1.out).mono ?_); rintro e w2 ⟨rfl, hb2⟩; have HS1 := hide (HS1.out.call hb2); have HW1 := hide (HW1.out.trans (hb2.mono HW1.out.size))))
          go_ret
          rw [HF2.out]
          exact ⟨rfl, (HW.out.al _).drew⟩
        · rw [decide_eq_false h1] at q1
          by_cases h7 : x.k = 7
          · rw [decide_eq_true h7] at q7
            have HF2 : Hid (risT l = false) := hide (risT_no (RisP.bad_each HX.out fun h => h.2.2 h7))
            clear h7
            unfold Tm.val Tm.row at HFX
            unfold Tm.row at c3
            generalize x.n = xn at *
            generalize x.s = xs at *
            generalize x.A = xA at *
            generalize x.c = xc at *
            generalize x.l.length = xm at *
            generalize hxk : x.k = xk at *
            clear hxk
            go_wp2_with fail
            refine wp_region_T [(0, 1), (1, 0), (2, 1), (3, 1), (4, 1), (5, 0), (6, 1), (7, 1), (8, 1), (9, 0), (10, 2), (11, 1), (12, 1), (13, 1), (14, 1), (15, 1), (16, 1), (17, 1), (18, 0), (19, 1), (20, 0), (21, 1), (22, 1), (23, 0), (24, 1), (25, 1), (26, 1), (27, 0), (28, 1), (29, 1), (30, 1), (31, 0), (32, 0), (33, 2), (34, 1), (35, 1), (36, 1), (37, 1)] (by kernel_rfl) (by kernel_rfl) (fun _ _ _ _ h => h) ?_
            go_wp2_with (first
  | (refine wpT_nil ?_)   | ((with_reducible refine fromT_refl ?_); (try simp only [Act.put, nq1, nq2, nq3, nq4, nq5, nq6]))   | ((with_reducible refine fromT_mk (by assumption) ?_); (try simp only [Act.put, nq1, nq2, nq3, nq4, nq5, nq6]))   | (refine wpT_pure (v := ?_) rfl rfl ?_ ?_; rotate_left; (intro wx; go_simp; try go_bits) <;> (with_reducible rfl); (try simp only [Act.put, nq1, nq2, nq3, nq4, nq5, nq6]))   | (refine wpT_load (v := ?_) rfl rfl rfl ?_ ?_; rotate_left; (go_simp; try go_bits) <;> (with_reducible rfl); (try simp only [Act.put, nq1, nq2, nq3, nq4, nq5, nq6]))   | (refine wpT_read (v := ?_) rfl rfl ?_ ?_; rotate_left; (intro wx hx; go_simp; try go_bits) <;> (with_reducible rfl); (try simp only [Act.put, nq1, nq2, nq3, nq4, nq5, nq6]))   | (refine wpT_call rfl rfl ?_; intro K hK)   | (refine wpT_late rfl rfl ?_; intro K hK)   | (refine wpT_any rfl rfl ?_; intro K hK)   | (refine wpT_skip rfl rfl ?_; (try simp only [Act.put, nq1, nq2, nq3, nq4, nq5, nq6]))
  | (go_at_call 57; (with_reducible refine (HFX.out _ ((HW.out.al _).drew)).mono ?_); rintro e w' ⟨rfl, hb⟩; have hS1 := (HSr.out.alloc #[.int .i64 xk, .int .i64 xn, .string (strOf xs), .slice xA xm xc] 62).drew.call hb; have k0 := hS1.cell 0 rfl 0; have k1 := hS1.cell 0 rfl 1; have k2 := hS1.cell 0 rfl 2; have k3 := hS1.cell 0 rfl 3; have g3 := hS1.cell 1 rfl 3; have HS1 := hide hS1.tail; have HW1 := hide hS1.below; have y0 := (HY.out _ HW1.out).1; clear hS1)
  | (go_at_call 67; (with_reducible refine (HCP.out _ HW1.out).mono ?_); rintro e w2 ⟨rfl, hb2⟩; have HS1 := hide (HS1.out.call hb2); have HW1 := hide (HW1.out.trans (hb2.mono HW1.out.size))))
            go_ret
            rw [HF2.out]
            exact ⟨rfl, (HW.out.al _).drew⟩
          · rw [decide_eq_false h7] at q7
            by_cases hf : mayT x = true
            · rw [hf] at HFX
              have HE := hide (show mayE x = true ∧ x.k ≠ 1 ∧ x.k ≠ 7 from ⟨by rw [← mayT_e h7]; exact hf, h1, h7⟩)
              have exy : x.k = y.k := by
                have h1 := HX.out
                have h2 := HKP.out
                obtain rfl : k = 0 := by omega
                rw [HY0.out] at h1
                injection h1 with h1
                rw [h1]
              have HK1 : Hid (RisK l (k + 1)) := hide (HK.out.next HX.out HY0.out HE.out exy (fun p h => absurd h HKP.out))
              clear h7 h1 exy
              unfold Tm.val Tm.row at HFX
              unfold Tm.row at c3
              generalize x.n = xn at *
              generalize x.s = xs at *
              generalize x.A = xA at *
              generalize x.c = xc at *
              generalize x.l.length = xm at *
              generalize hxk : x.k = xk at *
              clear hxk
              go_wp2_with fail
              refine wp_region_T [(0, 1), (1, 0), (2, 1), (3, 1), (4, 1), (5, 0), (6, 1), (7, 1), (8, 1), (9, 0), (10, 2), (11, 1), (12, 1), (13, 1), (14, 1), (15, 1), (16, 1), (17, 1), (18, 0), (19, 1), (20, 0), (21, 1), (22, 1), (23, 0), (24, 1), (25, 1), (26, 1), (27, 0), (28, 1), (29, 1), (30, 1), (31, 0), (32, 0), (33, 2), (34, 1), (35, 1), (36, 1), (37, 1)] (by kernel_rfl) (by kernel_rfl) (fun _ _ _ _ h => h) ?_
              go_wp2_with (first
  | (refine wpT_nil ?_)   | ((with_reducible refine fromT_refl ?_); (try simp only [Act.put, nq1, nq2, nq3, nq4, nq5, nq6]))   | ((with_reducible refine fromT_mk (by assumption) ?_); (try simp only [Act.put, nq1, nq2, nq3, nq4, nq5, nq6]))   | (refine wpT_pure (v := ?_) rfl rfl ?_ ?_; rotate_left; (intro wx; go_simp; try go_bits) <;> (with_reducible rfl); (try simp only [Act.put, nq1, nq2, nq3, nq4, nq5, nq6]))   | (refine wpT_load (v := ?_) rfl rfl rfl ?_ ?_; rotate_left; (go_simp; try go_bits) <;> (with_reducible rfl); (try simp only [Act.put, nq1, nq2, nq3, nq4, nq5, nq6]))   | (refine wpT_read (v := ?_) rfl rfl ?_ ?_; rotate_left; (intro wx hx; go_simp; try go_bits) <;> (with_reducible rfl); (try simp only [Act.put, nq1, nq2, nq3, nq4, nq5, nq6]))   | (refine wpT_call rfl rfl ?_; intro K hK)   | (refine wpT_late rfl rfl ?_; intro K hK)   | (refine wpT_any rfl rfl ?_; intro K hK)   | (refine wpT_skip rfl rfl ?_; (try simp only [Act.put, nq1, nq2, nq3, nq4, nq5, nq6]))
  | (go_at_call 57; (with_reducible refine (HFX.out _ ((HW.out.al _).drew)).mono ?_); rintro e w' ⟨rfl, hb⟩; have hS1 := (HSr.out.alloc #[.int .i64 xk, .int .i64 xn, .string (strOf xs), .slice xA xm xc] 62).drew.call hb; have k0 := hS1.cell 0 rfl 0; have k1 := hS1.cell 0 rfl 1; have k2 := hS1.cell 0 rfl 2; have k3 := hS1.cell 0 rfl 3; have g3 := hS1.cell 1 rfl 3; have HS1 := hide hS1.tail; have HW1 := hide hS1.below; have y0 := (HY.out _ HW1.out).1; clear hS1)
  | (go_at_call 67; (with_reducible refine (HCP.out _ HW1.out).mono ?_); rintro e w2 ⟨rfl, hb2⟩; have HS1 := hide (HS1.out.call hb2); have HW1 := hide (HW1.out.trans (hb2.mono HW1.out.size))))
              go_roundw
              case rel => exact ⟨k + 1, by have := HL.out; omega, by go_num, HK1, HS1⟩
              case measure => (have := HL.out); (simp [intOf]) <;> omega
            · have hff : mayT x = false := by simpa using hf
              rw [hff] at HFX
              have HF2 : Hid (risT l = false) := hide (risT_no (RisP.bad_each HX.out fun h => hf (by rw [mayT_e h.2.2]; exact h.1)))
              clear h1 h7
              unfold Tm.val Tm.row at HFX
              unfold Tm.row at c3
              generalize x.n = xn at *
              generalize x.s = xs at *
              generalize x.A = xA at *
              generalize x.c = xc at *
              generalize x.l.length = xm at *
              generalize hxk : x.k = xk at *
              clear hxk
              go_wp2_with fail
              refine wp_region_T [(0, 1), (1, 0), (2, 1), (3, 1), (4, 1), (5, 0), (6, 1), (7, 1), (8, 1), (9, 0), (10, 2), (11, 1), (12, 1), (13, 1), (14, 1), (15, 1), (16, 1), (17, 1), (18, 0), (19, 1), (20, 0), (21, 1), (22, 1), (23, 0), (24, 1), (25, 1), (26, 1), (27, 0), (28, 1), (29, 1), (30, 1), (31, 0), (32, 0), (33, 2), (34, 1), (35, 1), (36, 1), (37, 1)] (by kernel_rfl) (by kernel_rfl) (fun _ _ _ _ h => h) ?_
              go_wp2_with (first
  | (refine wpT_nil ?_)   | ((with_reducible refine fromT_refl ?_); (try simp only [Act.put, nq1, nq2, nq3, nq4, nq5, nq6]))   | ((with_reducible refine fromT_mk (by assumption) ?_); (try simp only [Act.put, nq1, nq2, nq3, nq4, nq5, nq6]))   | (refine wpT_pure (v := ?_) rfl rfl ?_ ?_; rotate_left; (intro wx; go_simp; try go_bits) <;> (with_reducible rfl); (try simp only [Act.put, nq1, nq2, nq3, nq4, nq5, nq6]))   | (refine wpT_load (v := ?_) rfl rfl rfl ?_ ?_; rotate_left; (go_simp; try go_bits) <;> (with_reducible rfl); (try simp only [Act.put, nq1, nq2, nq3, nq4, nq5, nq6]))   | (refine wpT_read (v := ?_) rfl rfl ?_ ?_; rotate_left; (intro wx hx; go_simp; try go_bits) <;> (with_reducible rfl); (try simp only [Act.put, nq1, nq2, nq3, nq4, nq5, nq6]))   | (refine wpT_call rfl rfl ?_; intro K hK)   | (refine wpT_late rfl rfl ?_; intro K hK)   | (refine wpT_any rfl rfl ?_; intro K hK)   | (refine wpT_skip rfl rfl ?_; (try simp only [Act.put, nq1, nq2, nq3, nq4, nq5, nq6]))
  | (go_at_call 57; (with_reducible refine (HFX.out _ ((HW.out.al _).drew)).mono ?_); rintro e w' ⟨rfl, hb⟩; have hS1 := (HSr.out.alloc #[.int .i64 xk, .int .i64 xn, .string (strOf xs), .slice xA xm xc] 62).drew.call hb; have k0 := hS1.cell 0 rfl 0; have k1 := hS1.cell 0 rfl 1; have k2 := hS1.cell 0 rfl 2; have k3 := hS1.cell 0 rfl 3; have g3 := hS1.cell 1 rfl 3; have HS1 := hide hS1.tail; have HW1 := hide hS1.below; have y0 := (HY.out _ HW1.out).1; clear hS1)
  | (go_at_call 67; (with_reducible refine (HCP.out _ HW1.out).mono ?_); rintro e w2 ⟨rfl, hb2⟩; have HS1 := hide (HS1.out.call hb2); have HW1 := hide (HW1.out.trans (hb2.mono HW1.out.size))))
              go_ret
              rw [HF2.out]
              exact ⟨rfl, HW1.out⟩
    · have hd : decide ((k : Int) < (n : Int)) = false := by simp; omega
      have hkl : k = l.length := by have := HN.out; omega
      have HKK : Hid (RisK l l.length) := hide (by rw [← hkl]; exact HK.out)
      have HF2 : Hid (risT l = true) := hide ((risT_iff l).2 (HKK.out.all (by have := HN.out; omega)))
      clear hkl
      go_wp2_with fail
      go_ret
      rw [HF2.out]
      exact ⟨rfl, HW.out⟩
theorem may_any {w : World} {t : Tm} (h : TmOK w t) : ∀ W, Below w.heap.size w W → Calls Try.prog 63 #[t.val] W fun e w' => e = .returned (.bool (mayT t)) ∧ Below W.heap.size W w' := by
  induction h with
  | mk t hr hb hl ih =>
    intro W hW
    refine may_step t W hb fun W1 hW1 _ => ?_
    refine rising_step t.row t.l W1 (TmOK.row ((TmOK.mk t hr hb hl).on (hW.trans (hW1.mono hW.size)))) hb.2.2.2 fun x hx W2 hW2 => ?_
    exact fixed_step x W2 fun W3 hW3 => ih x hx W3 (((hW.trans (hW1.mono hW.size)).trans (hW2.mono (hW.trans (hW1.mono hW.size)).size)).trans (hW3.mono ((hW.trans (hW1.mono hW.size)).trans (hW2.mono (hW.trans (hW1.mono hW.size)).size)).size))
theorem fixed_any {w : World} {t : Tm} (h : TmOK w t) (W : World) (hW : Below w.heap.size w W) : Calls Try.prog 41 #[t.val] W fun e w' => e = .returned (.bool (fixT t)) ∧ Below W.heap.size W w' :=
  fixed_step t W fun W1 hW1 => may_any h W1 (hW.trans (hW1.mono hW.size))
theorem mayR_any {w : World} {t : Tm} (h : TmOK w t) : ∀ W, Below w.heap.size w W → Calls Try.prog 57 #[t.val] W fun e w' => e = .returned (.bool (mayT t)) ∧ Below W.heap.size W w' := by
  induction h with
  | mk t hr hb hl ih =>
    intro W hW
    refine mayR_step t W hb fun W1 hW1 _ => ?_
    refine maySet_step t W1 ((TmOK.mk t hr hb hl).on (hW.trans (hW1.mono hW.size))) fun x hx W2 hW2 => ?_
    exact ih x hx W2 ((hW.trans (hW1.mono hW.size)).trans (hW2.mono (hW.trans (hW1.mono hW.size)).size))
theorem fixedR_any {w : World} {t : Tm} (h : TmOK w t) (W : World) (hW : Below w.heap.size w W) : Calls Try.prog 34 #[t.val] W fun e w' => e = .returned (.bool (fixT t)) ∧ Below W.heap.size W w' :=
  fixedR_step t W fun W1 hW1 => mayR_any h W1 (hW.trans (hW1.mono hW.size))
end Go.Proofs.Ythpioncehigoaaa
