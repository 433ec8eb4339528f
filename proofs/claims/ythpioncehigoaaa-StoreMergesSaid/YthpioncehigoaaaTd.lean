/-
  Layer 7: terms compared, by the program.
-/
import Derived.Test.YthpioncehigoaaaTc
set_option linter.unusedVariables false
namespace Go.Proofs.Ythpioncehigoaaa
open Go.RowKit
set_option linter.unusedSimpArgs false

theorem below_da (w : World) (o : Obj) : Below w.drew.heap.size w.drew (w.alloc o).drew := by
  have h := ((Below.refl w.heap.size w).alloc (Nat.le_refl _) o).drew
  exact ⟨h.1, h.2, h.3, h.4, h.5⟩
theorem orL3 (a b c : Int) : orL [a, b, c] = orI a (orI b c) := by
  have e : orI c 0 = c := by unfold orI; split <;> omega
  rw [orL, orL, orL, orL, e]
theorem or3_any (a b c : Int) (g : Nat) (w : World) (hr : Rd w (.slice (some ⟨g, 0, none⟩) 3 3) 1 3 [.int .i64 a, .int .i64 b, .int .i64 c]) : Calls Try.prog 27 #[.slice (some ⟨g, 0, none⟩) 3 3] w fun e w' => e = .returned (.int .i64 (orI a (orI b c))) ∧ w = w' := by
  have h := or_any (.slice (some ⟨g, 0, none⟩) 3 3) [a, b, c] w (by simp) hr
  rw [orL3] at h
  exact h
theorem _root_.Go.RowKit.Below.al {w w' : World} (h : Below w.heap.size w w') (o : Obj) : Below w.heap.size w (w'.alloc o) := h.alloc h.size o
theorem or3n_any (a b c : Int) (w : World) (g : Nat) (hg : g = w.heap.size) : Calls Try.prog 27 #[.slice (some ⟨g, 0, none⟩) 3 3] (w.alloc (.cells #[.int .i64 a, .int .i64 b, .int .i64 c] 3)).drew fun e w' => e = .returned (.int .i64 (orI a (orI b c))) ∧ (w.alloc (.cells #[.int .i64 a, .int .i64 b, .int .i64 c] 3)).drew = w' := by
  subst hg
  exact or3_any a b c _ _ ((rd_new w [.int .i64 a, .int .i64 b, .int .i64 c] 3 1 3 rfl (by decide)).below ((Below.refl _ _).drew))
/-- Its closure, over a function that compares terms. -/
theorem clo_any {d : Nat} (hd : d ≤ 100) {g : Tm → Tm → Int} {x y : Tm} {W : World} {p : Nat} (hc : W.cell? ⟨p, 0, none⟩ = some (.int .i64 ((d : Int) + 1)))
    (ih : ∀ W', Below W.heap.size W W' → Calls Try.prog 55 #[x.val, y.val, .int .i64 (d : Int)] W' fun e w' => e = .returned (.int .i64 (g x y)) ∧ Below W'.heap.size W' w') :
    Calls Try.prog 72 #[x.val, y.val, .pointer (some ⟨p, 0, none⟩)] W fun e w' => e = .returned (.int .i64 (g x y)) ∧ Below W.heap.size W w' := by
  unfold Tm.val Tm.row at ih ⊢
  have hb0 := ((Below.refl W.heap.size W).al (.cells #[.int .i64 x.k, .int .i64 x.n, .string (strOf x.s), .slice x.A x.l.length x.c] 62)).al (.cells #[.int .i64 y.k, .int .i64 y.n, .string (strOf y.s), .slice y.A y.l.length y.c] 62)
  have hp : p < W.heap.size := World.block_lt_of_cell? _ _ hc
  have HI := hide ih
  have HB := hide hb0
  clear ih hb0
  generalize g x y = z at HI ⊢
  go_enter Try.func72, Try.ntmps72
  go_wp2_with (go_at_call 55; (with_reducible refine (HI.out _ HB.out).mono ?_); rintro e w' ⟨rfl, hb⟩; have HB := hide (HB.out.trans (hb.mono HB.out.size)); clear hb)
  go_ret
  exact ⟨rfl, HB.out⟩
set_option maxRecDepth 100000 in
set_option maxHeartbeats 800000 in
theorem cmpd0_any (t u : Tm) (w : World) : Calls Try.prog 55 #[t.val, u.val, .int .i64 0] w fun e w' => e = .returned (.int .i64 (cmp0 t u)) ∧ Below w.heap.size w w' := by
  unfold Tm.val Tm.row cmp0
  have H1 := hide (fun W => cmpI_any t.k u.k W)
  have H2 := hide (fun W => cmpJ_any t.n u.n W)
  have H3 := hide (fun W => cmpS_any t.s u.s W)
  generalize cmpI t.k u.k = a at H1 ⊢
  generalize cmpI t.n u.n = b at H2 ⊢
  generalize cmpS t.s u.s = c at H3 ⊢
  have HO := hide (fun W g h => or3n_any a b c W g h)
  generalize orI a (orI b c) = z at HO ⊢
  by_cases hz : z = 0
  · have q1 : (z != 0) = false := by simp [hz]
    clear hz
    go_enter Try.func55, Try.ntmps55
    go_wp2_with fail
    refine wp_region_T [(0, 1), (1, 0), (2, 1), (3, 0), (5, 1), (6, 0), (7, 1), (8, 0), (10, 1), (11, 0), (12, 1), (13, 0), (4, 2), (9, 2), (14, 2), (15, 2), (16, 2), (17, 1)] (by kernel_rfl) (by kernel_rfl) (fun _ _ _ _ h => h) ?_
    go_wp2_with (first
    | (refine wpT_nil ?_)   | ((with_reducible refine fromT_refl ?_); (try simp only [Act.put, nq1, nq2, nq3, nq4, nq5, nq6]))   | ((with_reducible refine fromT_mk (by assumption) ?_); (try simp only [Act.put, nq1, nq2, nq3, nq4, nq5, nq6]))   | (refine wpT_pure (v := ?_) rfl rfl ?_ ?_; rotate_left; (intro wx; go_simp; try go_bits) <;> (with_reducible rfl); (try simp only [Act.put, nq1, nq2, nq3, nq4, nq5, nq6]))   | (refine wpT_load (v := ?_) rfl rfl rfl ?_ ?_; rotate_left; (go_simp; try go_bits) <;> (with_reducible rfl); (try simp only [Act.put, nq1, nq2, nq3, nq4, nq5, nq6]))   | (refine wpT_read (v := ?_) rfl rfl ?_ ?_; rotate_left; (intro wx hx; go_simp; try go_bits) <;> (with_reducible rfl); (try simp only [Act.put, nq1, nq2, nq3, nq4, nq5, nq6]))   | (refine wpT_call rfl rfl ?_; intro K hK)   | (refine wpT_late rfl rfl ?_; intro K hK)   | (refine wpT_any rfl rfl ?_; intro K hK)   | (refine wpT_skip rfl rfl ?_; (try simp only [Act.put, nq1, nq2, nq3, nq4, nq5, nq6]))
    | (with_reducible refine fromT_mk (below_da _ _) ?_)
    | (go_at_call 29; (with_reducible refine (H1.out _).mono ?_); rintro e w' ⟨rfl, rfl⟩)
    | (go_at_call 71; (with_reducible refine (H2.out _).mono ?_); rintro e w' ⟨rfl, rfl⟩)
    | (go_at_call 28; (with_reducible refine (H3.out _).mono ?_); rintro e w' ⟨rfl, rfl⟩)
    | (go_at_call 27; (with_reducible refine (HO.out _ _ (by simp)).mono ?_); rintro e w' ⟨rfl, rfl⟩))
    go_ret
    exact ⟨rfl, (((((Below.refl _ _).al _).al _).al _).al _).drew⟩
  · have q1 : (z != 0) = true := by simp [hz]
    clear hz
    go_enter Try.func55, Try.ntmps55
    go_wp2_with fail
    refine wp_region_T [(0, 1), (1, 0), (2, 1), (3, 0), (5, 1), (6, 0), (7, 1), (8, 0), (10, 1), (11, 0), (12, 1), (13, 0), (4, 2), (9, 2), (14, 2), (15, 2), (16, 2), (17, 1)] (by kernel_rfl) (by kernel_rfl) (fun _ _ _ _ h => h) ?_
    go_wp2_with (first
    | (refine wpT_nil ?_)   | ((with_reducible refine fromT_refl ?_); (try simp only [Act.put, nq1, nq2, nq3, nq4, nq5, nq6]))   | ((with_reducible refine fromT_mk (by assumption) ?_); (try simp only [Act.put, nq1, nq2, nq3, nq4, nq5, nq6]))   | (refine wpT_pure (v := ?_) rfl rfl ?_ ?_; rotate_left; (intro wx; go_simp; try go_bits) <;> (with_reducible rfl); (try simp only [Act.put, nq1, nq2, nq3, nq4, nq5, nq6]))   | (refine wpT_load (v := ?_) rfl rfl rfl ?_ ?_; rotate_left; (go_simp; try go_bits) <;> (with_reducible rfl); (try simp only [Act.put, nq1, nq2, nq3, nq4, nq5, nq6]))   | (refine wpT_read (v := ?_) rfl rfl ?_ ?_; rotate_left; (intro wx hx; go_simp; try go_bits) <;> (with_reducible rfl); (try simp only [Act.put, nq1, nq2, nq3, nq4, nq5, nq6]))   | (refine wpT_call rfl rfl ?_; intro K hK)   | (refine wpT_late rfl rfl ?_; intro K hK)   | (refine wpT_any rfl rfl ?_; intro K hK)   | (refine wpT_skip rfl rfl ?_; (try simp only [Act.put, nq1, nq2, nq3, nq4, nq5, nq6]))
    | (with_reducible refine fromT_mk (below_da _ _) ?_)
    | (go_at_call 29; (with_reducible refine (H1.out _).mono ?_); rintro e w' ⟨rfl, rfl⟩)
    | (go_at_call 71; (with_reducible refine (H2.out _).mono ?_); rintro e w' ⟨rfl, rfl⟩)
    | (go_at_call 28; (with_reducible refine (H3.out _).mono ?_); rintro e w' ⟨rfl, rfl⟩)
    | (go_at_call 27; (with_reducible refine (HO.out _ _ (by simp)).mono ?_); rintro e w' ⟨rfl, rfl⟩))
    go_ret
    exact ⟨rfl, (((((Below.refl _ _).al _).al _).al _).al _).drew⟩
theorem enClo (args : Array Value) (w : World) : (callFunc 72 args).run Try.prog w = .ok (.enter 72 args) w := by kernel_rfl
set_option maxRecDepth 100000 in
set_option maxHeartbeats 800000 in
theorem cmpd_step (d : Nat) (hd : d ≤ 100) (ih : ∀ (t u : Tm) (w : World), TmOK w t → TmOK w u → Calls Try.prog 55 #[t.val, u.val, .int .i64 (d : Int)] w fun e w' => e = .returned (.int .i64 (cmpT d t u)) ∧ Below w.heap.size w w')
    (t u : Tm) (w : World) (ht : TmOK w t) (hu : TmOK w u) : Calls Try.prog 55 #[t.val, u.val, .int .i64 ((d : Int) + 1)] w fun e w' => e = .returned (.int .i64 (cmpT (d + 1) t u)) ∧ Below w.heap.size w w' := by
  have hF : ∀ W, Below w.heap.size w W → ∀ p, W.cell? ⟨p, 0, none⟩ = some (.int .i64 ((d : Int) + 1)) → Calls Try.prog 30 #[.slice t.A t.l.length t.c, .slice u.A u.l.length u.c, .func (.func 72) #[] #[.pointer (some ⟨p, 0, none⟩)]] W fun e w' => e = .returned (.int .i64 (cmpL (cmpT d) t.l u.l)) ∧ Below W.heap.size W w' := fun W hW p hp =>
    cmpF_any _ enClo _ (cmpT d) _ _ t.l u.l W (ht.row.on hW) (hu.row.on hW) fun W' hW' x hx y hy => by
      have hlt : p < W.heap.size := World.block_lt_of_cell? _ _ hp
      exact clo_any hd (by rw [hW'.cell (p := ⟨p, 0, none⟩) hlt]; exact hp) fun W2 hW2 => ih x y W2 (((ht.kid hx).on hW).on (hW'.trans (hW2.mono hW'.size))) (((hu.kid hy).on hW).on (hW'.trans (hW2.mono hW'.size)))
  have HF := hide hF
  clear hF ih ht hu
  rw [cmpT]
  unfold Tm.val Tm.row cmp0
  have H1 := hide (fun W => cmpI_any t.k u.k W)
  have H2 := hide (fun W => cmpJ_any t.n u.n W)
  have H3 := hide (fun W => cmpS_any t.s u.s W)
  generalize cmpI t.k u.k = a at H1 ⊢
  generalize cmpI t.n u.n = b at H2 ⊢
  generalize cmpS t.s u.s = c at H3 ⊢
  have HO := hide (fun W g h => or3n_any a b c W g h)
  generalize orI a (orI b c) = z at HO ⊢
  generalize cmpL (cmpT d) t.l u.l = y at HF ⊢
  have dd : (((d : Int) + 1) == 0) = false := by simp; omega
  by_cases hz : z = 0
  · have q1 : (z != 0) = false := by simp [hz]
    have hy : orI z y = y := by unfold orI; rw [if_pos hz]
    rw [hy]
    clear hz hy
    go_enter Try.func55, Try.ntmps55
    go_wp2_with fail
    refine wp_region_T [(0, 1), (1, 0), (2, 1), (3, 0), (5, 1), (6, 0), (7, 1), (8, 0), (10, 1), (11, 0), (12, 1), (13, 0), (4, 2), (9, 2), (14, 2), (15, 2), (16, 2), (17, 1)] (by kernel_rfl) (by kernel_rfl) (fun _ _ _ _ h => h) ?_
    go_wp2_with (first
    | (refine wpT_nil ?_)   | ((with_reducible refine fromT_refl ?_); (try simp only [Act.put, nq1, nq2, nq3, nq4, nq5, nq6]))   | ((with_reducible refine fromT_mk (by assumption) ?_); (try simp only [Act.put, nq1, nq2, nq3, nq4, nq5, nq6]))   | (refine wpT_pure (v := ?_) rfl rfl ?_ ?_; rotate_left; (intro wx; go_simp; try go_bits) <;> (with_reducible rfl); (try simp only [Act.put, nq1, nq2, nq3, nq4, nq5, nq6]))   | (refine wpT_load (v := ?_) rfl rfl rfl ?_ ?_; rotate_left; (go_simp; try go_bits) <;> (with_reducible rfl); (try simp only [Act.put, nq1, nq2, nq3, nq4, nq5, nq6]))   | (refine wpT_read (v := ?_) rfl rfl ?_ ?_; rotate_left; (intro wx hx; go_simp; try go_bits) <;> (with_reducible rfl); (try simp only [Act.put, nq1, nq2, nq3, nq4, nq5, nq6]))   | (refine wpT_call rfl rfl ?_; intro K hK)   | (refine wpT_late rfl rfl ?_; intro K hK)   | (refine wpT_any rfl rfl ?_; intro K hK)   | (refine wpT_skip rfl rfl ?_; (try simp only [Act.put, nq1, nq2, nq3, nq4, nq5, nq6]))
    | (with_reducible refine fromT_mk (below_da _ _) ?_)
    | (go_at_call 29; (with_reducible refine (H1.out _).mono ?_); rintro e w' ⟨rfl, rfl⟩)
    | (go_at_call 71; (with_reducible refine (H2.out _).mono ?_); rintro e w' ⟨rfl, rfl⟩)
    | (go_at_call 28; (with_reducible refine (H3.out _).mono ?_); rintro e w' ⟨rfl, rfl⟩)
    | (go_at_call 27; (with_reducible refine (HO.out _ _ (by simp)).mono ?_); rintro e w' ⟨rfl, rfl⟩)
      | (go_at_call 30; (with_reducible refine (HF.out _ (((((Below.refl _ _).al _).al _).al _).al _).drew _ (by go_simp)).mono ?_); rintro e w' ⟨rfl, hb⟩; have HB := hide ((((((Below.refl _ _).al _).al _).al _).al _).drew.trans (hb.mono (((((Below.refl _ _).al _).al _).al _).al _).drew.size)); clear hb))
    go_ret
    exact ⟨rfl, HB.out⟩
  · have q1 : (z != 0) = true := by simp [hz]
    have hy : orI z y = z := by unfold orI; rw [if_neg hz]
    rw [hy]
    clear hz hy
    go_enter Try.func55, Try.ntmps55
    go_wp2_with fail
    refine wp_region_T [(0, 1), (1, 0), (2, 1), (3, 0), (5, 1), (6, 0), (7, 1), (8, 0), (10, 1), (11, 0), (12, 1), (13, 0), (4, 2), (9, 2), (14, 2), (15, 2), (16, 2), (17, 1)] (by kernel_rfl) (by kernel_rfl) (fun _ _ _ _ h => h) ?_
    go_wp2_with (first
    | (refine wpT_nil ?_)   | ((with_reducible refine fromT_refl ?_); (try simp only [Act.put, nq1, nq2, nq3, nq4, nq5, nq6]))   | ((with_reducible refine fromT_mk (by assumption) ?_); (try simp only [Act.put, nq1, nq2, nq3, nq4, nq5, nq6]))   | (refine wpT_pure (v := ?_) rfl rfl ?_ ?_; rotate_left; (intro wx; go_simp; try go_bits) <;> (with_reducible rfl); (try simp only [Act.put, nq1, nq2, nq3, nq4, nq5, nq6]))   | (refine wpT_load (v := ?_) rfl rfl rfl ?_ ?_; rotate_left; (go_simp; try go_bits) <;> (with_reducible rfl); (try simp only [Act.put, nq1, nq2, nq3, nq4, nq5, nq6]))   | (refine wpT_read (v := ?_) rfl rfl ?_ ?_; rotate_left; (intro wx hx; go_simp; try go_bits) <;> (with_reducible rfl); (try simp only [Act.put, nq1, nq2, nq3, nq4, nq5, nq6]))   | (refine wpT_call rfl rfl ?_; intro K hK)   | (refine wpT_late rfl rfl ?_; intro K hK)   | (refine wpT_any rfl rfl ?_; intro K hK)   | (refine wpT_skip rfl rfl ?_; (try simp only [Act.put, nq1, nq2, nq3, nq4, nq5, nq6]))
    | (with_reducible refine fromT_mk (below_da _ _) ?_)
    | (go_at_call 29; (with_reducible refine (H1.out _).mono ?_); rintro e w' ⟨rfl, rfl⟩)
    | (go_at_call 71; (with_reducible refine (H2.out _).mono ?_); rintro e w' ⟨rfl, rfl⟩)
    | (go_at_call 28; (with_reducible refine (H3.out _).mono ?_); rintro e w' ⟨rfl, rfl⟩)
    | (go_at_call 27; (with_reducible refine (HO.out _ _ (by simp)).mono ?_); rintro e w' ⟨rfl, rfl⟩))
    go_ret
    exact ⟨rfl, (((((Below.refl _ _).al _).al _).al _).al _).drew⟩
end Go.Proofs.Ythpioncehigoaaa
