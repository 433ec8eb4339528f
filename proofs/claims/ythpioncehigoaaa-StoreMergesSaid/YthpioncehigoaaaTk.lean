/-
  Layer 7: the terms of a set, gone through by the program and by the page.
-/
import Derived.Test.YthpioncehigoaaaTj
set_option linter.unusedVariables false
namespace Go.Proofs.Ythpioncehigoaaa
open Go.RowKit
set_option linter.unusedSimpArgs false

theorem fixT_e {x : Tm} (h1 : x.k ≠ 1) (h7 : x.k ≠ 7) : fixT x = mayE x := by
  unfold fixT mayT
  rw [decide_eq_true h1, if_neg h7]
  rfl
theorem fixT_1 {x : Tm} (h1 : x.k = 1) : fixT x = false := by
  unfold fixT
  rw [decide_eq_false (by simp [h1])]
  rfl
theorem mayT_e {x : Tm} (h7 : x.k ≠ 7) : mayT x = mayE x := by
  unfold mayT
  rw [if_neg h7]
/-- What holds of the first k. -/
structure RisK (l : List Tm) (k : Nat) : Prop where
  each : ∀ (i : Nat) (x : Tm), i < k → l[i]? = some x → mayE x = true ∧ x.k ≠ 1 ∧ x.k ≠ 7
  kind : ∀ (i : Nat) (x y : Tm), i < k → l[i]? = some x → l[0]? = some y → x.k = y.k
  up : ∀ (i : Nat) (x y : Tm), i + 1 < k → l[i]? = some x → l[i + 1]? = some y → cmpA x y < 0
theorem RisK.zero (l : List Tm) : RisK l 0 := ⟨fun _ _ h => absurd h (Nat.not_lt_zero _), fun _ _ _ h => absurd h (Nat.not_lt_zero _), fun _ _ _ h => absurd h (Nat.not_lt_zero _)⟩
theorem RisK.next {l : List Tm} {k : Nat} (h : RisK l k) {x y : Tm} (hx : l[k]? = some x) (hy : l[0]? = some y) (he : mayE x = true ∧ x.k ≠ 1 ∧ x.k ≠ 7) (hk : x.k = y.k) (hu : ∀ p, 0 < k → l[k - 1]? = some p → cmpA p x < 0) : RisK l (k + 1) := by
  refine ⟨fun i z hi hz => ?_, fun i z u hi hz hu' => ?_, fun i z u hi hz hu' => ?_⟩
  · by_cases e : i = k
    · subst e
      rw [hx] at hz
      injection hz with hz
      subst hz
      exact he
    · exact h.each i z (by omega) hz
  · by_cases e : i = k
    · subst e
      rw [hx] at hz
      injection hz with hz
      subst hz
      rw [hy] at hu'
      injection hu' with hu'
      subst hu'
      exact hk
    · exact h.kind i z u (by omega) hz hu'
  · by_cases e : i + 1 = k
    · subst e
      rw [hx] at hu'
      injection hu' with hu'
      subst hu'
      exact hu z (by omega) (by simpa using hz)
    · exact h.up i z u (by omega) hz hu'
theorem RisK.all {l : List Tm} (h : RisK l l.length) (hl : l.length ≤ 16) : RisP l := by
  have hlt : ∀ (i : Nat) (x : Tm), l[i]? = some x → i < l.length := fun i x h => (List.getElem?_eq_some_iff.1 h).1
  refine ⟨hl, fun x hx => ?_, fun x hx y hy => ?_, fun i x y hx hy => ?_⟩
  · obtain ⟨i, hi⟩ := List.getElem?_of_mem hx
    exact h.each i x (hlt i x hi) hi
  · obtain ⟨i, hi⟩ := List.getElem?_of_mem hx
    obtain ⟨j, hj⟩ := List.getElem?_of_mem hy
    have h0 : 0 < l.length := by have := hlt i x hi; omega
    have e0 : l[0]? = some l[0] := List.getElem?_eq_getElem h0
    rw [h.kind i x _ (hlt i x hi) hi e0, h.kind j y _ (hlt j y hj) hj e0]
  · exact h.up i x y (hlt _ _ hy) hx hy
theorem RisP.bad_each {l : List Tm} {k : Nat} {x : Tm} (hx : l[k]? = some x) (h : ¬ (mayE x = true ∧ x.k ≠ 1 ∧ x.k ≠ 7)) : ¬ RisP l := fun r => h (r.each x (List.mem_of_getElem? hx))
theorem RisP.bad_kind {l : List Tm} {k : Nat} {x y : Tm} (hx : l[k]? = some x) (hy : l[0]? = some y) (h : x.k ≠ y.k) : ¬ RisP l := fun r => h (r.kind x (List.mem_of_getElem? hx) y (List.mem_of_getElem? hy))
theorem RisP.bad_up {l : List Tm} {k : Nat} {p x : Tm} (h0 : 0 < k) (hp : l[k - 1]? = some p) (hx : l[k]? = some x) (h : ¬ cmpA p x < 0) : ¬ RisP l := fun r => h (r.up (k - 1) p x hp (by rw [show k - 1 + 1 = k by omega]; exact hx))
set_option maxRecDepth 100000 in
set_option maxHeartbeats 1600000 in
theorem rising_step (v : Value) (l : List Tm) (w : World) (hv : TmsAt w v l) (hm : l.length ≤ 140737488351232) (hf : ∀ x ∈ l, ∀ W, Below w.heap.size w W → Calls Try.prog 41 #[x.val] W fun e w' => e = .returned (.bool (fixT x)) ∧ Below W.heap.size W w') :
    Calls Try.prog 75 #[v] w fun e w' => e = .returned (.bool (risT l)) ∧ Below w.heap.size w w' := by
  obtain ⟨A, c, rfl, hr⟩ := Rd.isSlice hv.1
  have HA := hide hr
  have HF := hide hf
  have HOK := hide hv.2
  clear hr hv hf
  obtain ⟨n, hn⟩ : ∃ n, n = l.length := ⟨_, rfl⟩
  rw [← hn] at HA hm ⊢
  have HN := hide hn
  clear hn
  go_enter Try.func75, Try.ntmps75
  go_wp2_with fail
  go_loopw [7] (fun i wr => ∃ k : Nat, k ≤ n ∧ i = .int .i64 (k : Int) ∧ Hid (RisK l k) ∧ Hid (Below w.heap.size w wr)) (fun i _ => (n - intOf i).toNat)
  case atStart => exact ⟨0, by omega, rfl, hide (RisK.zero l), Below.refl _ _⟩
  case round =>
    obtain ⟨k, hk, rfl, HK, HW⟩ := hrel
    by_cases hlt : k < n
    · have hd : decide ((k : Int) < (n : Int)) = true := by simp; omega
      have hkl : k < l.length := by have := HN.out; omega
      have h0l : 0 < l.length := by omega
      have HX := hide (show l[k]? = some l[k] from List.getElem?_eq_getElem hkl)
      have HY0 := hide (show l[0]? = some l[0] from List.getElem?_eq_getElem h0l)
      obtain ⟨b, o, rfl, hb8, hc⟩ := tm_at HA.out HX.out
      obtain ⟨c0, c1, c2, c3⟩ := hc _ HW.out
      obtain ⟨b', o', e', _, hc'⟩ := tm_at HA.out HY0.out
      injection e' with e'
      injection e' with e1' e2'
      subst e1' e2'
      have HFX := hide (HF.out l[k] (List.getElem_mem hkl))
      have HOX := hide (HOK.out l[k] (List.getElem_mem hkl))
      generalize l[k] = x at c0 c1 c2 c3 HX HFX HOX
      generalize l[0] = y at hc' HY0
      have HY : Hid (∀ w', Below w.heap.size w w' → w'.cell? ⟨b, o, none⟩ = some (.int .i64 y.k) ∧ True) := hide (fun w' hw => ⟨by have := (hc' w' hw).1; rw [Nat.zero_mul, Nat.add_zero] at this; exact this, trivial⟩)
      clear hc hc'
      have hbr : b < wr.heap.size := by have := HW.out.size; omega
      have HL := hide hlt
      have kn : (k : Int) < (n : Int) := by omega
      have n0 : (0 : Int) < (n : Int) := by omega
      have n0' : 0 < n := by omega
      have kn' : k < n := hlt
      clear hkl h0l
      by_cases hp : 0 < k
      · have hpl : k - 1 < l.length := by have := HN.out; omega
        have HPX := hide (show l[k - 1]? = some l[k - 1] from List.getElem?_eq_getElem hpl)
        obtain ⟨b', o', e', _, hcp⟩ := tm_at HA.out HPX.out
        injection e' with e'
        injection e' with e1' e2'
        subst e1' e2'
        have HOP := hide (HOK.out l[k - 1] (List.getElem_mem hpl))
        generalize l[k - 1] = p at hcp HPX HOP
        have HCP := hide (fun W hW => compare_any p x W (HOP.out.on hW) (HOX.out.on hW))
        have dp : decide ((0 : Int) < (k : Int)) = true := by simp; omega
        have ek : (k : Int) - 1 = ((k - 1 : Nat) : Int) := by omega
        have kp : ((k - 1 : Nat) : Int) < (n : Int) := by omega
        have kp' : k - 1 < n := by omega
        have dp' : decide (0 < k) = true := by simp; omega
        have HCC := hide hcp
        have HKP := hide hp
        clear hcp hpl hp
        have q7 : ((x.k : Int) == 7) = decide (x.k = 7) := by rw [Bool.eq_iff_iff]; simp
        have qn : ((x.k : Int) != y.k) = decide (x.k ≠ y.k) := by rw [Bool.eq_iff_iff]; simp
        by_cases hf : fixT x = true
        · rw [hf] at HFX
          by_cases h7 : x.k = 7
          · rw [decide_eq_true h7] at q7
            have HF2 : Hid (risT l = false) := hide (risT_no (RisP.bad_each HX.out fun h => h.2.2 h7))
            clear h7
            unfold Tm.val Tm.row at HFX HCP
            unfold Tm.row at c3
            generalize x.n = xn at *
            generalize x.s = xs at *
            generalize x.A = xA at *
            generalize x.c = xc at *
            generalize x.l.length = xm at *
            generalize hxk : x.k = xk at *
            clear hxk
            go_wp2_with fail
            refine wp_region_T [(0, 0), (1, 2), (2, 1), (3, 1), (4, 1), (5, 0), (6, 1), (7, 1), (8, 1), (9, 1), (10, 0), (11, 1), (12, 1), (13, 1), (14, 0), (15, 1), (16, 1), (17, 1), (18, 1), (19, 1), (20, 1), (21, 1), (22, 1), (23, 1), (24, 1), (25, 0), (26, 0), (27, 2), (28, 1), (29, 1), (30, 1)] (by kernel_rfl) (by kernel_rfl) (fun _ _ _ _ h => h) ?_
            go_wp2_with (first
          | (refine wpT_nil ?_)   | ((with_reducible refine fromT_refl ?_); (try simp only [Act.put, nq1, nq2, nq3, nq4, nq5, nq6]))   | ((with_reducible refine fromT_mk (by assumption) ?_); (try simp only [Act.put, nq1, nq2, nq3, nq4, nq5, nq6]))   | (refine wpT_pure (v := ?_) rfl rfl ?_ ?_; rotate_left; (intro wx; go_simp; try go_bits) <;> (with_reducible rfl); (try simp only [Act.put, nq1, nq2, nq3, nq4, nq5, nq6]))   | (refine wpT_load (v := ?_) rfl rfl rfl ?_ ?_; rotate_left; (go_simp; try go_bits) <;> (with_reducible rfl); (try simp only [Act.put, nq1, nq2, nq3, nq4, nq5, nq6]))   | (refine wpT_read (v := ?_) rfl rfl ?_ ?_; rotate_left; (intro wx hx; go_simp; try go_bits) <;> (with_reducible rfl); (try simp only [Act.put, nq1, nq2, nq3, nq4, nq5, nq6]))   | (refine wpT_call rfl rfl ?_; intro K hK)   | (refine wpT_late rfl rfl ?_; intro K hK)   | (refine wpT_any rfl rfl ?_; intro K hK)   | (refine wpT_skip rfl rfl ?_; (try simp only [Act.put, nq1, nq2, nq3, nq4, nq5, nq6]))
          | (go_at_call 41; (with_reducible refine (HFX.out _ ((HW.out.al _).drew)).mono ?_); rintro e w' ⟨rfl, hb⟩; have hS1 := ((St.init wr NoB).alloc #[.int .i64 xk, .int .i64 xn, .string (strOf xs), .slice xA xm xc] 62).drew.call hb; have k0 := hS1.cell 0 rfl 0; have k1 := hS1.cell 0 rfl 1; have k2 := hS1.cell 0 rfl 2; have k3 := hS1.cell 0 rfl 3; have HW1 := hide (HW.out.trans (hS1.below.mono HW.out.size)); have y0 := (HY.out _ HW1.out).1; have sz1 := hS1.below.size; clear hS1)
          | (go_at_call 31; (with_reducible refine (HCP.out _ HW1.out).mono ?_); rintro e w2 ⟨rfl, hb2⟩; have HW1 := hide (HW1.out.trans (hb2.mono HW1.out.size))))
            go_ret
            rw [HF2.out]
            exact ⟨rfl, HW1.out⟩
          · rw [decide_eq_false h7] at q7
            have h1 : x.k ≠ 1 := fun h => by rw [fixT_1 h] at hf; exact Bool.false_ne_true hf
            have HE := hide (show mayE x = true ∧ x.k ≠ 1 ∧ x.k ≠ 7 from ⟨by rw [← fixT_e h1 h7]; exact hf, h1, h7⟩)
            by_cases hn : x.k = y.k
            · rw [decide_eq_false (by simp [hn])] at qn
              obtain ⟨z, hz⟩ : ∃ z, z = cmpA p x := ⟨_, rfl⟩
              rw [← hz] at HCP
              by_cases hc : z < 0
              · have qc : decide (0 ≤ z) = false := by simp; omega
                have HK1 : Hid (RisK l (k + 1)) := hide (HK.out.next HX.out HY0.out HE.out hn (fun p' h hp' => by
                  have h2 := HPX.out
                  rw [hp'] at h2
                  injection h2 with h2
                  subst h2
                  rw [← hz]
                  exact hc))
                clear hz hn h7 h1
                unfold Tm.val Tm.row at HFX HCP
                unfold Tm.row at c3
                generalize x.n = xn at *
                generalize x.s = xs at *
                generalize x.A = xA at *
                generalize x.c = xc at *
                generalize x.l.length = xm at *
                generalize hxk : x.k = xk at *
                clear hxk
                go_wp2_with fail
                refine wp_region_T [(0, 0), (1, 2), (2, 1), (3, 1), (4, 1), (5, 0), (6, 1), (7, 1), (8, 1), (9, 1), (10, 0), (11, 1), (12, 1), (13, 1), (14, 0), (15, 1), (16, 1), (17, 1), (18, 1), (19, 1), (20, 1), (21, 1), (22, 1), (23, 1), (24, 1), (25, 0), (26, 0), (27, 2), (28, 1), (29, 1), (30, 1)] (by kernel_rfl) (by kernel_rfl) (fun _ _ _ _ h => h) ?_
                go_wp2_with (first
          | (refine wpT_nil ?_)   | ((with_reducible refine fromT_refl ?_); (try simp only [Act.put, nq1, nq2, nq3, nq4, nq5, nq6]))   | ((with_reducible refine fromT_mk (by assumption) ?_); (try simp only [Act.put, nq1, nq2, nq3, nq4, nq5, nq6]))   | (refine wpT_pure (v := ?_) rfl rfl ?_ ?_; rotate_left; (intro wx; go_simp; try go_bits) <;> (with_reducible rfl); (try simp only [Act.put, nq1, nq2, nq3, nq4, nq5, nq6]))   | (refine wpT_load (v := ?_) rfl rfl rfl ?_ ?_; rotate_left; (go_simp; try go_bits) <;> (with_reducible rfl); (try simp only [Act.put, nq1, nq2, nq3, nq4, nq5, nq6]))   | (refine wpT_read (v := ?_) rfl rfl ?_ ?_; rotate_left; (intro wx hx; go_simp; try go_bits) <;> (with_reducible rfl); (try simp only [Act.put, nq1, nq2, nq3, nq4, nq5, nq6]))   | (refine wpT_call rfl rfl ?_; intro K hK)   | (refine wpT_late rfl rfl ?_; intro K hK)   | (refine wpT_any rfl rfl ?_; intro K hK)   | (refine wpT_skip rfl rfl ?_; (try simp only [Act.put, nq1, nq2, nq3, nq4, nq5, nq6]))
          | (go_at_call 41; (with_reducible refine (HFX.out _ ((HW.out.al _).drew)).mono ?_); rintro e w' ⟨rfl, hb⟩; have hS1 := ((St.init wr NoB).alloc #[.int .i64 xk, .int .i64 xn, .string (strOf xs), .slice xA xm xc] 62).drew.call hb; have k0 := hS1.cell 0 rfl 0; have k1 := hS1.cell 0 rfl 1; have k2 := hS1.cell 0 rfl 2; have k3 := hS1.cell 0 rfl 3; have HW1 := hide (HW.out.trans (hS1.below.mono HW.out.size)); have y0 := (HY.out _ HW1.out).1; obtain ⟨p0, p1, p2, p3⟩ := HCC.out _ HW1.out; unfold Tm.row at p3; have sz1 := hS1.below.size; clear hS1)
          | (go_at_call 31; (with_reducible refine (HCP.out _ HW1.out).mono ?_); rintro e w2 ⟨rfl, hb2⟩; have HW1 := hide (HW1.out.trans (hb2.mono HW1.out.size))))
                go_roundw
                case rel => exact ⟨k + 1, by have := HL.out; omega, by go_num, HK1, HW1⟩
                case measure => (have := HL.out); (simp [intOf]) <;> omega
              · have qc : decide (0 ≤ z) = true := by simp; omega
                have HF2 : Hid (risT l = false) := hide (risT_no (RisP.bad_up HKP.out HPX.out HX.out (by rw [← hz]; exact hc)))
                clear hz hn h7 h1
                unfold Tm.val Tm.row at HFX HCP
                unfold Tm.row at c3
                generalize x.n = xn at *
                generalize x.s = xs at *
                generalize x.A = xA at *
                generalize x.c = xc at *
                generalize x.l.length = xm at *
                generalize hxk : x.k = xk at *
                clear hxk
                go_wp2_with fail
                refine wp_region_T [(0, 0), (1, 2), (2, 1), (3, 1), (4, 1), (5, 0), (6, 1), (7, 1), (8, 1), (9, 1), (10, 0), (11, 1), (12, 1), (13, 1), (14, 0), (15, 1), (16, 1), (17, 1), (18, 1), (19, 1), (20, 1), (21, 1), (22, 1), (23, 1), (24, 1), (25, 0), (26, 0), (27, 2), (28, 1), (29, 1), (30, 1)] (by kernel_rfl) (by kernel_rfl) (fun _ _ _ _ h => h) ?_
                go_wp2_with (first
          | (refine wpT_nil ?_)   | ((with_reducible refine fromT_refl ?_); (try simp only [Act.put, nq1, nq2, nq3, nq4, nq5, nq6]))   | ((with_reducible refine fromT_mk (by assumption) ?_); (try simp only [Act.put, nq1, nq2, nq3, nq4, nq5, nq6]))   | (refine wpT_pure (v := ?_) rfl rfl ?_ ?_; rotate_left; (intro wx; go_simp; try go_bits) <;> (with_reducible rfl); (try simp only [Act.put, nq1, nq2, nq3, nq4, nq5, nq6]))   | (refine wpT_load (v := ?_) rfl rfl rfl ?_ ?_; rotate_left; (go_simp; try go_bits) <;> (with_reducible rfl); (try simp only [Act.put, nq1, nq2, nq3, nq4, nq5, nq6]))   | (refine wpT_read (v := ?_) rfl rfl ?_ ?_; rotate_left; (intro wx hx; go_simp; try go_bits) <;> (with_reducible rfl); (try simp only [Act.put, nq1, nq2, nq3, nq4, nq5, nq6]))   | (refine wpT_call rfl rfl ?_; intro K hK)   | (refine wpT_late rfl rfl ?_; intro K hK)   | (refine wpT_any rfl rfl ?_; intro K hK)   | (refine wpT_skip rfl rfl ?_; (try simp only [Act.put, nq1, nq2, nq3, nq4, nq5, nq6]))
          | (go_at_call 41; (with_reducible refine (HFX.out _ ((HW.out.al _).drew)).mono ?_); rintro e w' ⟨rfl, hb⟩; have hS1 := ((St.init wr NoB).alloc #[.int .i64 xk, .int .i64 xn, .string (strOf xs), .slice xA xm xc] 62).drew.call hb; have k0 := hS1.cell 0 rfl 0; have k1 := hS1.cell 0 rfl 1; have k2 := hS1.cell 0 rfl 2; have k3 := hS1.cell 0 rfl 3; have HW1 := hide (HW.out.trans (hS1.below.mono HW.out.size)); have y0 := (HY.out _ HW1.out).1; obtain ⟨p0, p1, p2, p3⟩ := HCC.out _ HW1.out; unfold Tm.row at p3; have sz1 := hS1.below.size; clear hS1)
          | (go_at_call 31; (with_reducible refine (HCP.out _ HW1.out).mono ?_); rintro e w2 ⟨rfl, hb2⟩; have HW1 := hide (HW1.out.trans (hb2.mono HW1.out.size))))
                go_ret
                rw [HF2.out]
                exact ⟨rfl, HW1.out⟩
            · rw [decide_eq_true hn] at qn
              have HF2 : Hid (risT l = false) := hide (risT_no (RisP.bad_kind HX.out HY0.out hn))
              clear hn h7 h1
              unfold Tm.val Tm.row at HFX HCP
              unfold Tm.row at c3
              generalize x.n = xn at *
              generalize x.s = xs at *
              generalize x.A = xA at *
              generalize x.c = xc at *
              generalize x.l.length = xm at *
              generalize hxk : x.k = xk at *
              clear hxk
              go_wp2_with fail
              refine wp_region_T [(0, 0), (1, 2), (2, 1), (3, 1), (4, 1), (5, 0), (6, 1), (7, 1), (8, 1), (9, 1), (10, 0), (11, 1), (12, 1), (13, 1), (14, 0), (15, 1), (16, 1), (17, 1), (18, 1), (19, 1), (20, 1), (21, 1), (22, 1), (23, 1), (24, 1), (25, 0), (26, 0), (27, 2), (28, 1), (29, 1), (30, 1)] (by kernel_rfl) (by kernel_rfl) (fun _ _ _ _ h => h) ?_
              go_wp2_with (first
          | (refine wpT_nil ?_)   | ((with_reducible refine fromT_refl ?_); (try simp only [Act.put, nq1, nq2, nq3, nq4, nq5, nq6]))   | ((with_reducible refine fromT_mk (by assumption) ?_); (try simp only [Act.put, nq1, nq2, nq3, nq4, nq5, nq6]))   | (refine wpT_pure (v := ?_) rfl rfl ?_ ?_; rotate_left; (intro wx; go_simp; try go_bits) <;> (with_reducible rfl); (try simp only [Act.put, nq1, nq2, nq3, nq4, nq5, nq6]))   | (refine wpT_load (v := ?_) rfl rfl rfl ?_ ?_; rotate_left; (go_simp; try go_bits) <;> (with_reducible rfl); (try simp only [Act.put, nq1, nq2, nq3, nq4, nq5, nq6]))   | (refine wpT_read (v := ?_) rfl rfl ?_ ?_; rotate_left; (intro wx hx; go_simp; try go_bits) <;> (with_reducible rfl); (try simp only [Act.put, nq1, nq2, nq3, nq4, nq5, nq6]))   | (refine wpT_call rfl rfl ?_; intro K hK)   | (refine wpT_late rfl rfl ?_; intro K hK)   | (refine wpT_any rfl rfl ?_; intro K hK)   | (refine wpT_skip rfl rfl ?_; (try simp only [Act.put, nq1, nq2, nq3, nq4, nq5, nq6]))
          | (go_at_call 41; (with_reducible refine (HFX.out _ ((HW.out.al _).drew)).mono ?_); rintro e w' ⟨rfl, hb⟩; have hS1 := ((St.init wr NoB).alloc #[.int .i64 xk, .int .i64 xn, .string (strOf xs), .slice xA xm xc] 62).drew.call hb; have k0 := hS1.cell 0 rfl 0; have k1 := hS1.cell 0 rfl 1; have k2 := hS1.cell 0 rfl 2; have k3 := hS1.cell 0 rfl 3; have HW1 := hide (HW.out.trans (hS1.below.mono HW.out.size)); have y0 := (HY.out _ HW1.out).1; have sz1 := hS1.below.size; clear hS1)
          | (go_at_call 31; (with_reducible refine (HCP.out _ HW1.out).mono ?_); rintro e w2 ⟨rfl, hb2⟩; have HW1 := hide (HW1.out.trans (hb2.mono HW1.out.size))))
              go_ret
              rw [HF2.out]
              exact ⟨rfl, HW1.out⟩
        · have hff : fixT x = false := by simpa using hf
          rw [hff] at HFX
          have HF2 : Hid (risT l = false) := hide (risT_no (RisP.bad_each HX.out fun h => hf (by rw [fixT_e h.2.1 h.2.2]; exact h.1)))
          unfold Tm.val Tm.row at HFX HCP
          unfold Tm.row at c3
          generalize x.n = xn at *
          generalize x.s = xs at *
          generalize x.A = xA at *
          generalize x.c = xc at *
          generalize x.l.length = xm at *
          generalize hxk : x.k = xk at *
          clear hxk
          go_wp2_with fail
          refine wp_region_T [(0, 0), (1, 2), (2, 1), (3, 1), (4, 1), (5, 0), (6, 1), (7, 1), (8, 1), (9, 1), (10, 0), (11, 1), (12, 1), (13, 1), (14, 0), (15, 1), (16, 1), (17, 1), (18, 1), (19, 1), (20, 1), (21, 1), (22, 1), (23, 1), (24, 1), (25, 0), (26, 0), (27, 2), (28, 1), (29, 1), (30, 1)] (by kernel_rfl) (by kernel_rfl) (fun _ _ _ _ h => h) ?_
          go_wp2_with (first
          | (refine wpT_nil ?_)   | ((with_reducible refine fromT_refl ?_); (try simp only [Act.put, nq1, nq2, nq3, nq4, nq5, nq6]))   | ((with_reducible refine fromT_mk (by assumption) ?_); (try simp only [Act.put, nq1, nq2, nq3, nq4, nq5, nq6]))   | (refine wpT_pure (v := ?_) rfl rfl ?_ ?_; rotate_left; (intro wx; go_simp; try go_bits) <;> (with_reducible rfl); (try simp only [Act.put, nq1, nq2, nq3, nq4, nq5, nq6]))   | (refine wpT_load (v := ?_) rfl rfl rfl ?_ ?_; rotate_left; (go_simp; try go_bits) <;> (with_reducible rfl); (try simp only [Act.put, nq1, nq2, nq3, nq4, nq5, nq6]))   | (refine wpT_read (v := ?_) rfl rfl ?_ ?_; rotate_left; (intro wx hx; go_simp; try go_bits) <;> (with_reducible rfl); (try simp only [Act.put, nq1, nq2, nq3, nq4, nq5, nq6]))   | (refine wpT_call rfl rfl ?_; intro K hK)   | (refine wpT_late rfl rfl ?_; intro K hK)   | (refine wpT_any rfl rfl ?_; intro K hK)   | (refine wpT_skip rfl rfl ?_; (try simp only [Act.put, nq1, nq2, nq3, nq4, nq5, nq6]))
          | (go_at_call 41; (with_reducible refine (HFX.out _ ((HW.out.al _).drew)).mono ?_); rintro e w' ⟨rfl, hb⟩; have hS1 := ((St.init wr NoB).alloc #[.int .i64 xk, .int .i64 xn, .string (strOf xs), .slice xA xm xc] 62).drew.call hb; have k0 := hS1.cell 0 rfl 0; have k1 := hS1.cell 0 rfl 1; have k2 := hS1.cell 0 rfl 2; have k3 := hS1.cell 0 rfl 3; have HW1 := hide (HW.out.trans (hS1.below.mono HW.out.size)); have y0 := (HY.out _ HW1.out).1; have sz1 := hS1.below.size; clear hS1)
          | (go_at_call 31; (with_reducible refine (HCP.out _ HW1.out).mono ?_); rintro e w2 ⟨rfl, hb2⟩; have HW1 := hide (HW1.out.trans (hb2.mono HW1.out.size))))
          go_ret
          rw [HF2.out]
          exact ⟨rfl, HW1.out⟩
      · have HKP := hide hp
        have dp : decide ((0 : Int) < (k : Int)) = false := by simp; omega
        have dp' : decide (0 < k) = false := by simp; omega
        clear hp
        have q7 : ((x.k : Int) == 7) = decide (x.k = 7) := by rw [Bool.eq_iff_iff]; simp
        have qn : ((x.k : Int) != y.k) = decide (x.k ≠ y.k) := by rw [Bool.eq_iff_iff]; simp
        by_cases hf : fixT x = true
        · rw [hf] at HFX
          by_cases h7 : x.k = 7
          · rw [decide_eq_true h7] at q7
            have HF2 : Hid (risT l = false) := hide (risT_no (RisP.bad_each HX.out fun h => h.2.2 h7))
            clear h7
            unfold Tm.val Tm.row at HFX
            unfold Tm.row at c3
            generalize x.n = xn at *
            generalize x.s = xs at *
            generalize x.A = xA at *
            generalize x.c = xc at *
            generalize x.l.length = xm at *
            generalize hxk : x.k = xk at *
            clear hxk
            go_wp2_with fail
            refine wp_region_T [(0, 0), (1, 2), (2, 1), (3, 1), (4, 1), (5, 0), (6, 1), (7, 1), (8, 1), (9, 1), (10, 0), (11, 1), (12, 1), (13, 1), (14, 0), (15, 1), (16, 1), (17, 1), (18, 1), (19, 1), (20, 1), (21, 1), (22, 1), (23, 1), (24, 1), (25, 0), (26, 0), (27, 2), (28, 1), (29, 1), (30, 1)] (by kernel_rfl) (by kernel_rfl) (fun _ _ _ _ h => h) ?_
            go_wp2_with (first
          | (refine wpT_nil ?_)   | ((with_reducible refine fromT_refl ?_); (try simp only [Act.put, nq1, nq2, nq3, nq4, nq5, nq6]))   | ((with_reducible refine fromT_mk (by assumption) ?_); (try simp only [Act.put, nq1, nq2, nq3, nq4, nq5, nq6]))   | (refine wpT_pure (v := ?_) rfl rfl ?_ ?_; rotate_left; (intro wx; go_simp; try go_bits) <;> (with_reducible rfl); (try simp only [Act.put, nq1, nq2, nq3, nq4, nq5, nq6]))   | (refine wpT_load (v := ?_) rfl rfl rfl ?_ ?_; rotate_left; (go_simp; try go_bits) <;> (with_reducible rfl); (try simp only [Act.put, nq1, nq2, nq3, nq4, nq5, nq6]))   | (refine wpT_read (v := ?_) rfl rfl ?_ ?_; rotate_left; (intro wx hx; go_simp; try go_bits) <;> (with_reducible rfl); (try simp only [Act.put, nq1, nq2, nq3, nq4, nq5, nq6]))   | (refine wpT_call rfl rfl ?_; intro K hK)   | (refine wpT_late rfl rfl ?_; intro K hK)   | (refine wpT_any rfl rfl ?_; intro K hK)   | (refine wpT_skip rfl rfl ?_; (try simp only [Act.put, nq1, nq2, nq3, nq4, nq5, nq6]))
          | (go_at_call 41; (with_reducible refine (HFX.out _ ((HW.out.al _).drew)).mono ?_); rintro e w' ⟨rfl, hb⟩; have hS1 := ((St.init wr NoB).alloc #[.int .i64 xk, .int .i64 xn, .string (strOf xs), .slice xA xm xc] 62).drew.call hb; have k0 := hS1.cell 0 rfl 0; have k1 := hS1.cell 0 rfl 1; have k2 := hS1.cell 0 rfl 2; have k3 := hS1.cell 0 rfl 3; have HW1 := hide (HW.out.trans (hS1.below.mono HW.out.size)); have y0 := (HY.out _ HW1.out).1; have sz1 := hS1.below.size; clear hS1)
          | (go_at_call 31; (with_reducible refine (HCP.out _ HW1.out).mono ?_); rintro e w2 ⟨rfl, hb2⟩; have HW1 := hide (HW1.out.trans (hb2.mono HW1.out.size))))
            go_ret
            rw [HF2.out]
            exact ⟨rfl, HW1.out⟩
          · rw [decide_eq_false h7] at q7
            have h1 : x.k ≠ 1 := fun h => by rw [fixT_1 h] at hf; exact Bool.false_ne_true hf
            have HE := hide (show mayE x = true ∧ x.k ≠ 1 ∧ x.k ≠ 7 from ⟨by rw [← fixT_e h1 h7]; exact hf, h1, h7⟩)
            by_cases hn : x.k = y.k
            · rw [decide_eq_false (by simp [hn])] at qn
              have HK1 : Hid (RisK l (k + 1)) := hide (HK.out.next HX.out HY0.out HE.out hn (fun p h => absurd h HKP.out))
              clear hn h7 h1
              unfold Tm.val Tm.row at HFX
              unfold Tm.row at c3
              generalize x.n = xn at *
              generalize x.s = xs at *
              generalize x.A = xA at *
              generalize x.c = xc at *
              generalize x.l.length = xm at *
              generalize hxk : x.k = xk at *
              clear hxk
              go_wp2_with fail
              refine wp_region_T [(0, 0), (1, 2), (2, 1), (3, 1), (4, 1), (5, 0), (6, 1), (7, 1), (8, 1), (9, 1), (10, 0), (11, 1), (12, 1), (13, 1), (14, 0), (15, 1), (16, 1), (17, 1), (18, 1), (19, 1), (20, 1), (21, 1), (22, 1), (23, 1), (24, 1), (25, 0), (26, 0), (27, 2), (28, 1), (29, 1), (30, 1)] (by kernel_rfl) (by kernel_rfl) (fun _ _ _ _ h => h) ?_
              go_wp2_with (first
          | (refine wpT_nil ?_)   | ((with_reducible refine fromT_refl ?_); (try simp only [Act.put, nq1, nq2, nq3, nq4, nq5, nq6]))   | ((with_reducible refine fromT_mk (by assumption) ?_); (try simp only [Act.put, nq1, nq2, nq3, nq4, nq5, nq6]))   | (refine wpT_pure (v := ?_) rfl rfl ?_ ?_; rotate_left; (intro wx; go_simp; try go_bits) <;> (with_reducible rfl); (try simp only [Act.put, nq1, nq2, nq3, nq4, nq5, nq6]))   | (refine wpT_load (v := ?_) rfl rfl rfl ?_ ?_; rotate_left; (go_simp; try go_bits) <;> (with_reducible rfl); (try simp only [Act.put, nq1, nq2, nq3, nq4, nq5, nq6]))   | (refine wpT_read (v := ?_) rfl rfl ?_ ?_; rotate_left; (intro wx hx; go_simp; try go_bits) <;> (with_reducible rfl); (try simp only [Act.put, nq1, nq2, nq3, nq4, nq5, nq6]))   | (refine wpT_call rfl rfl ?_; intro K hK)   | (refine wpT_late rfl rfl ?_; intro K hK)   | (refine wpT_any rfl rfl ?_; intro K hK)   | (refine wpT_skip rfl rfl ?_; (try simp only [Act.put, nq1, nq2, nq3, nq4, nq5, nq6]))
          | (go_at_call 41; (with_reducible refine (HFX.out _ ((HW.out.al _).drew)).mono ?_); rintro e w' ⟨rfl, hb⟩; have hS1 := ((St.init wr NoB).alloc #[.int .i64 xk, .int .i64 xn, .string (strOf xs), .slice xA xm xc] 62).drew.call hb; have k0 := hS1.cell 0 rfl 0; have k1 := hS1.cell 0 rfl 1; have k2 := hS1.cell 0 rfl 2; have k3 := hS1.cell 0 rfl 3; have HW1 := hide (HW.out.trans (hS1.below.mono HW.out.size)); have y0 := (HY.out _ HW1.out).1; have sz1 := hS1.below.size; clear hS1)
          | (go_at_call 31; (with_reducible refine (HCP.out _ HW1.out).mono ?_); rintro e w2 ⟨rfl, hb2⟩; have HW1 := hide (HW1.out.trans (hb2.mono HW1.out.size))))
              go_roundw
              case rel => exact ⟨k + 1, by have := HL.out; omega, by go_num, HK1, HW1⟩
              case measure => (have := HL.out); (simp [intOf]) <;> omega
            · rw [decide_eq_true hn] at qn
              have HF2 : Hid (risT l = false) := hide (risT_no (RisP.bad_kind HX.out HY0.out hn))
              clear hn h7 h1
              unfold Tm.val Tm.row at HFX
              unfold Tm.row at c3
              generalize x.n = xn at *
              generalize x.s = xs at *
              generalize x.A = xA at *
              generalize x.c = xc at *
              generalize x.l.length = xm at *
              generalize hxk : x.k = xk at *
              clear hxk
              go_wp2_with fail
              refine wp_region_T [(0, 0), (1, 2), (2, 1), (3, 1), (4, 1), (5, 0), (6, 1), (7, 1), (8, 1), (9, 1), (10, 0), (11, 1), (12, 1), (13, 1), (14, 0), (15, 1), (16, 1), (17, 1), (18, 1), (19, 1), (20, 1), (21, 1), (22, 1), (23, 1), (24, 1), (25, 0), (26, 0), (27, 2), (28, 1), (29, 1), (30, 1)] (by kernel_rfl) (by kernel_rfl) (fun _ _ _ _ h => h) ?_
              go_wp2_with (first
          | (refine wpT_nil ?_)   | ((with_reducible refine fromT_refl ?_); (try simp only [Act.put, nq1, nq2, nq3, nq4, nq5, nq6]))   | ((with_reducible refine fromT_mk (by assumption) ?_); (try simp only [Act.put, nq1, nq2, nq3, nq4, nq5, nq6]))   | (refine wpT_pure (v := ?_) rfl rfl ?_ ?_; rotate_left; (intro wx; go_simp; try go_bits) <;> (with_reducible rfl); (try simp only [Act.put, nq1, nq2, nq3, nq4, nq5, nq6]))   | (refine wpT_load (v := ?_) rfl rfl rfl ?_ ?_; rotate_left; (go_simp; try go_bits) <;> (with_reducible rfl); (try simp only [Act.put, nq1, nq2, nq3, nq4, nq5, nq6]))   | (refine wpT_read (v := ?_) rfl rfl ?_ ?_; rotate_left; (intro wx hx; go_simp; try go_bits) <;> (with_reducible rfl); (try simp only [Act.put, nq1, nq2, nq3, nq4, nq5, nq6]))   | (refine wpT_call rfl rfl ?_; intro K hK)   | (refine wpT_late rfl rfl ?_; intro K hK)   | (refine wpT_any rfl rfl ?_; intro K hK)   | (refine wpT_skip rfl rfl ?_; (try simp only [Act.put, nq1, nq2, nq3, nq4, nq5, nq6]))
          | (go_at_call 41; (with_reducible refine (HFX.out _ ((HW.out.al _).drew)).mono ?_); rintro e w' ⟨rfl, hb⟩; have hS1 := ((St.init wr NoB).alloc #[.int .i64 xk, .int .i64 xn, .string (strOf xs), .slice xA xm xc] 62).drew.call hb; have k0 := hS1.cell 0 rfl 0; have k1 := hS1.cell 0 rfl 1; have k2 := hS1.cell 0 rfl 2; have k3 := hS1.cell 0 rfl 3; have HW1 := hide (HW.out.trans (hS1.below.mono HW.out.size)); have y0 := (HY.out _ HW1.out).1; have sz1 := hS1.below.size; clear hS1)
          | (go_at_call 31; (with_reducible refine (HCP.out _ HW1.out).mono ?_); rintro e w2 ⟨rfl, hb2⟩; have HW1 := hide (HW1.out.trans (hb2.mono HW1.out.size))))
              go_ret
              rw [HF2.out]
              exact ⟨rfl, HW1.out⟩
        · have hff : fixT x = false := by simpa using hf
          rw [hff] at HFX
          have HF2 : Hid (risT l = false) := hide (risT_no (RisP.bad_each HX.out fun h => hf (by rw [fixT_e h.2.1 h.2.2]; exact h.1)))
          unfold Tm.val Tm.row at HFX
          unfold Tm.row at c3
          generalize x.n = xn at *
          generalize x.s = xs at *
          generalize x.A = xA at *
          generalize x.c = xc at *
          generalize x.l.length = xm at *
          generalize hxk : x.k = xk at *
          clear hxk
          go_wp2_with fail
          refine wp_region_T [(0, 0), (1, 2), (2, 1), (3, 1), (4, 1), (5, 0), (6, 1), (7, 1), (8, 1), (9, 1), (10, 0), (11, 1), (12, 1), (13, 1), (14, 0), (15, 1), (16, 1), (17, 1), (18, 1), (19, 1), (20, 1), (21, 1), (22, 1), (23, 1), (24, 1), (25, 0), (26, 0), (27, 2), (28, 1), (29, 1), (30, 1)] (by kernel_rfl) (by kernel_rfl) (fun _ _ _ _ h => h) ?_
          go_wp2_with (first
          | (refine wpT_nil ?_)   | ((with_reducible refine fromT_refl ?_); (try simp only [Act.put, nq1, nq2, nq3, nq4, nq5, nq6]))   | ((with_reducible refine fromT_mk (by assumption) ?_); (try simp only [Act.put, nq1, nq2, nq3, nq4, nq5, nq6]))   | (refine wpT_pure (v := ?_) rfl rfl ?_ ?_; rotate_left; (intro wx; go_simp; try go_bits) <;> (with_reducible rfl); (try simp only [Act.put, nq1, nq2, nq3, nq4, nq5, nq6]))   | (refine wpT_load (v := ?_) rfl rfl rfl ?_ ?_; rotate_left; (go_simp; try go_bits) <;> (with_reducible rfl); (try simp only [Act.put, nq1, nq2, nq3, nq4, nq5, nq6]))   | (refine wpT_read (v := ?_) rfl rfl ?_ ?_; rotate_left; (intro wx hx; go_simp; try go_bits) <;> (with_reducible rfl); (try simp only [Act.put, nq1, nq2, nq3, nq4, nq5, nq6]))   | (refine wpT_call rfl rfl ?_; intro K hK)   | (refine wpT_late rfl rfl ?_; intro K hK)   | (refine wpT_any rfl rfl ?_; intro K hK)   | (refine wpT_skip rfl rfl ?_; (try simp only [Act.put, nq1, nq2, nq3, nq4, nq5, nq6]))
          | (go_at_call 41; (with_reducible refine (HFX.out _ ((HW.out.al _).drew)).mono ?_); rintro e w' ⟨rfl, hb⟩; have hS1 := ((St.init wr NoB).alloc #[.int .i64 xk, .int .i64 xn, .string (strOf xs), .slice xA xm xc] 62).drew.call hb; have k0 := hS1.cell 0 rfl 0; have k1 := hS1.cell 0 rfl 1; have k2 := hS1.cell 0 rfl 2; have k3 := hS1.cell 0 rfl 3; have HW1 := hide (HW.out.trans (hS1.below.mono HW.out.size)); have y0 := (HY.out _ HW1.out).1; have sz1 := hS1.below.size; clear hS1)
          | (go_at_call 31; (with_reducible refine (HCP.out _ HW1.out).mono ?_); rintro e w2 ⟨rfl, hb2⟩; have HW1 := hide (HW1.out.trans (hb2.mono HW1.out.size))))
          go_ret
          rw [HF2.out]
          exact ⟨rfl, HW1.out⟩
    · have hd : decide ((k : Int) < (n : Int)) = false := by simp; omega
      have hkl : k = l.length := by have := HN.out; omega
      have HKK : Hid (RisK l l.length) := hide (by rw [← hkl]; exact HK.out)
      have HKL := hide hkl
      by_cases h16 : n ≤ 16
      · have d : decide ((n : Int) ≤ 16) = true := by simp; omega
        have HF2 : Hid (risT l = true) := hide ((risT_iff l).2 (HKK.out.all (by rw [← HN.out]; exact h16)))
        clear hkl
        go_wp2_with fail
        go_ret
        rw [HF2.out]
        exact ⟨rfl, HW.out⟩
      · have d : decide ((n : Int) ≤ 16) = false := by simp; omega
        have HF2 : Hid (risT l = false) := hide (risT_no fun r => h16 (by rw [HN.out]; exact r.len))
        clear hkl
        go_wp2_with fail
        go_ret
        rw [HF2.out]
        exact ⟨rfl, HW.out⟩
end Go.Proofs.Ythpioncehigoaaa
