/-
  Layer 7: the walk of TermKinds.
-/
import Derived.Test.YtjamoifenkdneaaTv
import Derived.Test.YtjamoifenkdneaaOpg
namespace Go.Proofs.Ytjamoifenkdneaa
open Go.RowKit
set_option linter.unusedSimpArgs false

theorem mayT_n {u : Tm} (hk : u.k = 1 ∨ u.k = 3 ∨ u.k = 5 ∨ u.k = 7) (hn : u.n ≠ 0) : mayT u = false := by
  unfold mayT mayE
  rcases hk with h | h | h | h <;> simp [h, hn]
theorem mayT_n0 {u : Tm} (hk : u.k = 1 ∨ u.k = 3 ∨ u.k = 5 ∨ u.k = 7) (h : mayT u = true) : u.n = 0 := by
  by_cases hn : u.n = 0
  · exact hn
  · rw [mayT_n hk hn] at h
    exact absurd h Bool.false_ne_true
theorem mayT_s {u : Tm} (hk : u.k = 2 ∨ u.k = 4 ∨ u.k = 6) (hn : u.s ≠ []) : mayT u = false := by
  unfold mayT mayE
  rcases hk with h | h | h <;> simp [h, hn]
theorem mayT_s0 {u : Tm} (hk : u.k = 2 ∨ u.k = 4 ∨ u.k = 6) (h : mayT u = true) : u.s = [] := by
  by_cases hn : u.s = []
  · exact hn
  · rw [mayT_s hk hn] at h
    exact absurd h Bool.false_ne_true
theorem mayT_k {u : Tm} (h : mayT u = true) : u.k = 1 ∨ u.k = 2 ∨ u.k = 3 ∨ u.k = 4 ∨ u.k = 5 ∨ u.k = 6 ∨ u.k = 7 := by
  by_cases hk : u.k = 1 ∨ u.k = 2 ∨ u.k = 3 ∨ u.k = 4 ∨ u.k = 5 ∨ u.k = 6 ∨ u.k = 7
  · exact hk
  · unfold mayT mayE at h
    rw [if_neg (by omega), if_neg (by omega), if_neg (by omega), if_neg (by omega), if_neg (by omega), if_neg (by omega)] at h
    exact absurd h Bool.false_ne_true
theorem sam_of0 {t u : Tm} (h : cmp0 t u ≠ 0) : samT t u = false := by
  unfold samT cmpA
  rw [show cmpT 3 t u = orI (cmp0 t u) (cmpL (cmpT 2) t.l u.l) by rw [cmpT]]
  unfold orI
  rw [if_neg h]
  exact decide_eq_false h
theorem cmpI_ne {a b : Int} (h : a ≠ b) : cmpI a b ≠ 0 := by
  unfold cmpI
  split
  · decide
  · split
    · decide
    · omega
theorem cmpI_same (a : Int) : cmpI a a = 0 := by
  unfold cmpI
  rw [if_neg (by omega), if_neg (by omega)]
theorem sam_n {a : Tm} {n : Int} (h : a.n ≠ n) : samT a (.mk a.k n a.s a.A a.c a.l) = false := by
  refine sam_of0 ?_
  show orI (cmpI a.k a.k) (orI (cmpI a.n n) (cmpS a.s a.s)) ≠ 0
  rw [cmpI_same]
  unfold orI
  rw [if_pos rfl, if_neg (cmpI_ne h)]
  exact cmpI_ne h
theorem sam_s {a : Tm} {s : List UInt8} (h : a.s ≠ s) : samT a (.mk a.k a.n s a.A a.c a.l) = false := by
  refine sam_of0 ?_
  show orI (cmpI a.k a.k) (orI (cmpI a.n a.n) (cmpS a.s s)) ≠ 0
  rw [cmpI_same, cmpI_same]
  unfold orI
  rw [if_pos rfl, if_pos rfl]
  exact fun e => h (cmpS_eq.1 e)
set_option maxRecDepth 100000 in
set_option maxHeartbeats 1600000 in
theorem tk1 (a : Tm) (n : Int) (hn8 : I64 n) (w : World) (ha : TmOK w a) (h1 : ¬ 100 ≤ sizT a) (hm : mayT a = true) (hn : n ≠ 0) (hq : a.k = 1) (hk : a.k = 1 ∨ a.k = 3 ∨ a.k = 5 ∨ a.k = 7) : Calls Try.prog 5 #[a.val, .int .i64 n] w fun e w' => e = .returned (.bool true) ∧ Below w.heap.size w w' := by
  have hS0 := (St.init w NoB).alloc #[.int .i64 a.k, .int .i64 a.n, .string (strOf a.s), .slice a.A a.l.length a.c] 24
  have HF : Hid (∀ W, St w NoB W [.cells w.heap.size #[.int .i64 a.k, .int .i64 a.n, .string (strOf a.s), .slice a.A a.l.length a.c] 24] →
      W.cell? ⟨w.heap.size, 0, none⟩ = some (.int .i64 a.k) ∧ W.cell? ⟨w.heap.size, 1, none⟩ = some (.int .i64 a.n) ∧ W.cell? ⟨w.heap.size, 2, none⟩ = some (.string (strOf a.s)) ∧ W.cell? ⟨w.heap.size, 3, none⟩ = some (.slice a.A a.l.length a.c)) :=
    hide (fun W h => ⟨h.cell 0 rfl 0, h.cell 0 rfl 1, h.cell 0 rfl 2, h.cell 0 rfl 3⟩)
  have HS := hide hS0
  clear hS0
  have Hsa := hide (fun W (h : Below w.heap.size w W) => Size_any a W (ha.on h))
  have HAW := hide (fun W => awake7_any W)
  have hsa : sizT a ≤ 100 := szT_le 6 [a] 0 (by omega)
  have hU : TmOK w (.mk a.k n a.s a.A a.c a.l) := .mk _ ha.rd ⟨ha.bd.1, hn8, ha.bd.2.2.1, ha.bd.2.2.2⟩ (fun x hx => ha.kid hx)
  have hmu : mayT (.mk a.k n a.s a.A a.c a.l) = false := mayT_n (u := .mk a.k n a.s a.A a.c a.l) hk hn
  have hsu : samT a (.mk a.k n a.s a.A a.c a.l) = false := sam_n (fun e => hn (by rw [← e]; exact mayT_n0 hk hm))
  have eU : Tm.val (.mk a.k n a.s a.A a.c a.l) = .agg #[.int .i64 a.k, .int .i64 n, .string (strOf a.s), .slice a.A a.l.length a.c] := rfl
  have hfx : fixT a = false := by unfold fixT; rw [hm]; simp; omega
  have Hy := hide (fun W (h : Below w.heap.size w W) => may_any ha W h)
  rw [hm] at Hy
  have Hx := hide (fun W (h : Below w.heap.size w W) => fixed_any ha W h)
  rw [hfx] at Hx
  have HyU : Hid (∀ W, Below w.heap.size w W → Calls Try.prog 14 #[.agg #[.int .i64 a.k, .int .i64 n, .string (strOf a.s), .slice a.A a.l.length a.c]] W fun e w' => e = .returned (.bool false) ∧ Below W.heap.size W w') := hide (fun W h => by have := may_any hU W h; rw [hmu, eU] at this; exact this)
  have Hsm : Hid (∀ W, Below w.heap.size w W → Calls Try.prog 12 #[.agg #[.int .i64 a.k, .int .i64 a.n, .string (strOf a.s), .slice a.A a.l.length a.c], .agg #[.int .i64 a.k, .int .i64 n, .string (strOf a.s), .slice a.A a.l.length a.c]] W fun e w' => e = .returned (.bool false) ∧ Below W.heap.size W w') := hide (fun W h => by have := same_any a _ W (ha.on h) (hU.on h); rw [hsu, eU] at this; exact this)
  have HA : Hid (∀ W x, St w NoB W [.cells x #[.int .i64 a.k, .int .i64 a.n, .string (strOf a.s), .slice a.A a.l.length a.c] 24, .cells w.heap.size #[.int .i64 a.k, .int .i64 a.n, .string (strOf a.s), .slice a.A a.l.length a.c] 24] →
      W.cell? ⟨w.heap.size, 0, none⟩ = some (.int .i64 a.k) ∧ W.cell? ⟨x, 1, none⟩ = some (.int .i64 a.n) ∧ W.cell? ⟨x, 2, none⟩ = some (.string (strOf a.s)) ∧ W.frozen? ⟨x, 1, none⟩ = false ∧ W.frozen? ⟨x, 2, none⟩ = false) :=
    hide (fun W x h => ⟨h.cell 1 rfl 0, h.cell 0 rfl 1, h.cell 0 rfl 2, h.free 0 rfl 1, h.free 0 rfl 2⟩)
  have HG : Hid (∀ W x, St w NoB W [.cells x #[.int .i64 a.k, .int .i64 n, .string (strOf a.s), .slice a.A a.l.length a.c] 24, .cells w.heap.size #[.int .i64 a.k, .int .i64 a.n, .string (strOf a.s), .slice a.A a.l.length a.c] 24] →
      (W.cell? ⟨w.heap.size, 0, none⟩ = some (.int .i64 a.k) ∧ W.cell? ⟨w.heap.size, 1, none⟩ = some (.int .i64 a.n) ∧ W.cell? ⟨w.heap.size, 2, none⟩ = some (.string (strOf a.s)) ∧ W.cell? ⟨w.heap.size, 3, none⟩ = some (.slice a.A a.l.length a.c)) ∧
      (W.cell? ⟨x, 0, none⟩ = some (.int .i64 a.k) ∧ W.cell? ⟨x, 1, none⟩ = some (.int .i64 n) ∧ W.cell? ⟨x, 2, none⟩ = some (.string (strOf a.s)) ∧ W.cell? ⟨x, 3, none⟩ = some (.slice a.A a.l.length a.c))) :=
    hide (fun W x h => ⟨⟨h.cell 1 rfl 0, h.cell 1 rfl 1, h.cell 1 rfl 2, h.cell 1 rfl 3⟩, ⟨h.cell 0 rfl 0, h.cell 0 rfl 1, h.cell 0 rfl 2, h.cell 0 rfl 3⟩⟩)
  have e0 : (n == 0) = false := by simp [hn]
  have e0' : decide (n = 0) = false := by simp [hn]
  have g2 : (a.k == 2) = false := by simp; omega
  have g2' : decide (a.k = 2) = false := by simp; omega
  have g4 : (a.k == 4) = false := by simp; omega
  have g4' : decide (a.k = 4) = false := by simp; omega
  have g6 : (a.k == 6) = false := by simp; omega
  have g6' : decide (a.k = 6) = false := by simp; omega
  have gn : (a.k != 1) = false := by simp; omega
  have gn' : decide (a.k ≠ 1) = false := by simp; omega
  clear ha hU hmu hsu hfx hm hn8 eU
  generalize sizT a = sa at *
  have d1 : decide ((100 : Int) ≤ (sa : Int)) = false := by simp; omega
  have d1' : decide (100 ≤ sa) = false := by simp; omega
  have HK := hide hk
  have HN := hide hn
  clear hk hn h1 hq
  unfold Tm.val Tm.row at *
  go_enter Try.func5, Try.ntmps5
  go_wp2_with (first
    | (go_at_call 9; (with_reducible refine (Hsa.out _ HS.out.below).mono ?_); rintro e w' ⟨rfl, hb⟩; have HS := hide (HS.out.call hb); obtain ⟨a0, a1, a2, a3⟩ := HF.out _ HS.out)
    | (go_at_call 14; (with_reducible refine (Hy.out _ HS.out.below).mono ?_); rintro e w' ⟨rfl, hb⟩; have HS := hide (HS.out.call hb); obtain ⟨a0, a1, a2, a3⟩ := HF.out _ HS.out; obtain ⟨z0, u1, u2, f1, f2⟩ := HA.out _ _ (HS.out.alloc #[.int .i64 a.k, .int .i64 a.n, .string (strOf a.s), .slice a.A a.l.length a.c] 24); have HU := hide (HS.out.alloc #[.int .i64 a.k, .int .i64 n, .string (strOf a.s), .slice a.A a.l.length a.c] 24)))
  refine wp_region_T [(0, 0), (1, 2), (2, 1), (3, 1), (4, 0), (5, 0), (6, 2), (7, 1), (8, 1), (9, 1), (10, 0), (12, 1), (13, 0), (14, 1), (11, 2), (15, 1), (16, 1), (17, 1), (18, 2), (19, 1), (20, 1)] (by kernel_rfl) (by kernel_rfl) (fun _ _ _ _ h => h) ?_
  have HS := hide HU.out.drew
  obtain ⟨⟨a0, a1, a2, a3⟩, ⟨b0, b1, b2, b3⟩⟩ := HG.out _ _ HS.out
  go_wp2_with (first
    | (refine wpT_nil ?_)   | ((with_reducible refine fromT_refl ?_); (try simp only [Act.put, List.setIfInBounds_toArray, List.set_cons_zero, List.set_cons_succ, List.getElem_toArray, List.getElem_cons_succ, List.getElem_cons_zero]))   | ((with_reducible refine fromT_mk (by assumption) ?_); (try simp only [Act.put, List.setIfInBounds_toArray, List.set_cons_zero, List.set_cons_succ, List.getElem_toArray, List.getElem_cons_succ, List.getElem_cons_zero]))   | (refine wpT_pure (v := ?_) rfl rfl ?_ ?_; rotate_left; (intro wx; go_simp; try go_bits) <;> (with_reducible rfl); (try simp only [Act.put, List.setIfInBounds_toArray, List.set_cons_zero, List.set_cons_succ, List.getElem_toArray, List.getElem_cons_succ, List.getElem_cons_zero]))   | (refine wpT_load (v := ?_) rfl rfl rfl ?_ ?_; rotate_left; (go_simp; try go_bits) <;> (with_reducible rfl); (try simp only [Act.put, List.setIfInBounds_toArray, List.set_cons_zero, List.set_cons_succ, List.getElem_toArray, List.getElem_cons_succ, List.getElem_cons_zero]))   | (refine wpT_read (v := ?_) rfl rfl ?_ ?_; rotate_left; (intro wx hx; go_simp; try go_bits) <;> (with_reducible rfl); (try simp only [Act.put, List.setIfInBounds_toArray, List.set_cons_zero, List.set_cons_succ, List.getElem_toArray, List.getElem_cons_succ, List.getElem_cons_zero]))   | (refine wpT_call rfl rfl ?_; intro K hK)   | (refine wpT_late rfl rfl ?_; intro K hK)   | (refine wpT_any rfl rfl ?_; intro K hK)   | (refine wpT_skip rfl rfl ?_; (try simp only [Act.put, List.setIfInBounds_toArray, List.set_cons_zero, List.set_cons_succ, List.getElem_toArray, List.getElem_cons_succ, List.getElem_cons_zero]))
    | (go_at_call 14; (with_reducible refine (HyU.out _ HS.out.below).mono ?_); rintro e w' ⟨rfl, hb⟩; have HS := hide (HS.out.call hb); obtain ⟨⟨a0, a1, a2, a3⟩, ⟨b0, b1, b2, b3⟩⟩ := HG.out _ _ HS.out)
    | (go_at_call 12; (with_reducible refine (Hsm.out _ HS.out.below).mono ?_); rintro e w' ⟨rfl, hb⟩; have HS := hide (HS.out.call hb); obtain ⟨⟨a0, a1, a2, a3⟩, ⟨b0, b1, b2, b3⟩⟩ := HG.out _ _ HS.out)
    | (go_at_call 15; (with_reducible refine (Hx.out _ HS.out.below).mono ?_); rintro e w' ⟨rfl, hb⟩; have HS := hide (HS.out.call hb); obtain ⟨⟨a0, a1, a2, a3⟩, ⟨b0, b1, b2, b3⟩⟩ := HG.out _ _ HS.out)
    | (go_at_call 10; (with_reducible refine (HAW.out _).mono ?_); rintro e w' ⟨rfl, hb⟩; have HB := hide (HS.out.below.trans (hb.mono HS.out.below.size))))
  go_ret
  exact ⟨rfl, HB.out⟩
set_option maxRecDepth 100000 in
set_option maxHeartbeats 1600000 in
theorem tk3 (a : Tm) (n : Int) (hn8 : I64 n) (w : World) (ha : TmOK w a) (h1 : ¬ 100 ≤ sizT a) (hm : mayT a = true) (hn : n ≠ 0) (hq : a.k ≠ 1) (hk : a.k = 1 ∨ a.k = 3 ∨ a.k = 5 ∨ a.k = 7) : Calls Try.prog 5 #[a.val, .int .i64 n] w fun e w' => e = .returned (.bool true) ∧ Below w.heap.size w w' := by
  have hS0 := (St.init w NoB).alloc #[.int .i64 a.k, .int .i64 a.n, .string (strOf a.s), .slice a.A a.l.length a.c] 24
  have HF : Hid (∀ W, St w NoB W [.cells w.heap.size #[.int .i64 a.k, .int .i64 a.n, .string (strOf a.s), .slice a.A a.l.length a.c] 24] →
      W.cell? ⟨w.heap.size, 0, none⟩ = some (.int .i64 a.k) ∧ W.cell? ⟨w.heap.size, 1, none⟩ = some (.int .i64 a.n) ∧ W.cell? ⟨w.heap.size, 2, none⟩ = some (.string (strOf a.s)) ∧ W.cell? ⟨w.heap.size, 3, none⟩ = some (.slice a.A a.l.length a.c)) :=
    hide (fun W h => ⟨h.cell 0 rfl 0, h.cell 0 rfl 1, h.cell 0 rfl 2, h.cell 0 rfl 3⟩)
  have HS := hide hS0
  clear hS0
  have Hsa := hide (fun W (h : Below w.heap.size w W) => Size_any a W (ha.on h))
  have HAW := hide (fun W => awake7_any W)
  have hsa : sizT a ≤ 100 := szT_le 6 [a] 0 (by omega)
  have hU : TmOK w (.mk a.k n a.s a.A a.c a.l) := .mk _ ha.rd ⟨ha.bd.1, hn8, ha.bd.2.2.1, ha.bd.2.2.2⟩ (fun x hx => ha.kid hx)
  have hmu : mayT (.mk a.k n a.s a.A a.c a.l) = false := mayT_n (u := .mk a.k n a.s a.A a.c a.l) hk hn
  have hsu : samT a (.mk a.k n a.s a.A a.c a.l) = false := sam_n (fun e => hn (by rw [← e]; exact mayT_n0 hk hm))
  have eU : Tm.val (.mk a.k n a.s a.A a.c a.l) = .agg #[.int .i64 a.k, .int .i64 n, .string (strOf a.s), .slice a.A a.l.length a.c] := rfl
  have hfx : fixT a = true := by unfold fixT; rw [hm]; simp; omega
  have Hy := hide (fun W (h : Below w.heap.size w W) => may_any ha W h)
  rw [hm] at Hy
  have Hx := hide (fun W (h : Below w.heap.size w W) => fixed_any ha W h)
  rw [hfx] at Hx
  have HyU : Hid (∀ W, Below w.heap.size w W → Calls Try.prog 14 #[.agg #[.int .i64 a.k, .int .i64 n, .string (strOf a.s), .slice a.A a.l.length a.c]] W fun e w' => e = .returned (.bool false) ∧ Below W.heap.size W w') := hide (fun W h => by have := may_any hU W h; rw [hmu, eU] at this; exact this)
  have Hsm : Hid (∀ W, Below w.heap.size w W → Calls Try.prog 12 #[.agg #[.int .i64 a.k, .int .i64 a.n, .string (strOf a.s), .slice a.A a.l.length a.c], .agg #[.int .i64 a.k, .int .i64 n, .string (strOf a.s), .slice a.A a.l.length a.c]] W fun e w' => e = .returned (.bool false) ∧ Below W.heap.size W w') := hide (fun W h => by have := same_any a _ W (ha.on h) (hU.on h); rw [hsu, eU] at this; exact this)
  have HA : Hid (∀ W x, St w NoB W [.cells x #[.int .i64 a.k, .int .i64 a.n, .string (strOf a.s), .slice a.A a.l.length a.c] 24, .cells w.heap.size #[.int .i64 a.k, .int .i64 a.n, .string (strOf a.s), .slice a.A a.l.length a.c] 24] →
      W.cell? ⟨w.heap.size, 0, none⟩ = some (.int .i64 a.k) ∧ W.cell? ⟨x, 1, none⟩ = some (.int .i64 a.n) ∧ W.cell? ⟨x, 2, none⟩ = some (.string (strOf a.s)) ∧ W.frozen? ⟨x, 1, none⟩ = false ∧ W.frozen? ⟨x, 2, none⟩ = false) :=
    hide (fun W x h => ⟨h.cell 1 rfl 0, h.cell 0 rfl 1, h.cell 0 rfl 2, h.free 0 rfl 1, h.free 0 rfl 2⟩)
  have HG : Hid (∀ W x, St w NoB W [.cells x #[.int .i64 a.k, .int .i64 n, .string (strOf a.s), .slice a.A a.l.length a.c] 24, .cells w.heap.size #[.int .i64 a.k, .int .i64 a.n, .string (strOf a.s), .slice a.A a.l.length a.c] 24] →
      (W.cell? ⟨w.heap.size, 0, none⟩ = some (.int .i64 a.k) ∧ W.cell? ⟨w.heap.size, 1, none⟩ = some (.int .i64 a.n) ∧ W.cell? ⟨w.heap.size, 2, none⟩ = some (.string (strOf a.s)) ∧ W.cell? ⟨w.heap.size, 3, none⟩ = some (.slice a.A a.l.length a.c)) ∧
      (W.cell? ⟨x, 0, none⟩ = some (.int .i64 a.k) ∧ W.cell? ⟨x, 1, none⟩ = some (.int .i64 n) ∧ W.cell? ⟨x, 2, none⟩ = some (.string (strOf a.s)) ∧ W.cell? ⟨x, 3, none⟩ = some (.slice a.A a.l.length a.c))) :=
    hide (fun W x h => ⟨⟨h.cell 1 rfl 0, h.cell 1 rfl 1, h.cell 1 rfl 2, h.cell 1 rfl 3⟩, ⟨h.cell 0 rfl 0, h.cell 0 rfl 1, h.cell 0 rfl 2, h.cell 0 rfl 3⟩⟩)
  have e0 : (n == 0) = false := by simp [hn]
  have e0' : decide (n = 0) = false := by simp [hn]
  have g2 : (a.k == 2) = false := by simp; omega
  have g2' : decide (a.k = 2) = false := by simp; omega
  have g4 : (a.k == 4) = false := by simp; omega
  have g4' : decide (a.k = 4) = false := by simp; omega
  have g6 : (a.k == 6) = false := by simp; omega
  have g6' : decide (a.k = 6) = false := by simp; omega
  have gn : (a.k != 1) = true := by simp; omega
  have gn' : decide (a.k ≠ 1) = true := by simp; omega
  clear ha hU hmu hsu hfx hm hn8 eU
  generalize sizT a = sa at *
  have d1 : decide ((100 : Int) ≤ (sa : Int)) = false := by simp; omega
  have d1' : decide (100 ≤ sa) = false := by simp; omega
  have HK := hide hk
  have HN := hide hn
  clear hk hn h1 hq
  unfold Tm.val Tm.row at *
  go_enter Try.func5, Try.ntmps5
  go_wp2_with (first
    | (go_at_call 9; (with_reducible refine (Hsa.out _ HS.out.below).mono ?_); rintro e w' ⟨rfl, hb⟩; have HS := hide (HS.out.call hb); obtain ⟨a0, a1, a2, a3⟩ := HF.out _ HS.out)
    | (go_at_call 14; (with_reducible refine (Hy.out _ HS.out.below).mono ?_); rintro e w' ⟨rfl, hb⟩; have HS := hide (HS.out.call hb); obtain ⟨a0, a1, a2, a3⟩ := HF.out _ HS.out; obtain ⟨z0, u1, u2, f1, f2⟩ := HA.out _ _ (HS.out.alloc #[.int .i64 a.k, .int .i64 a.n, .string (strOf a.s), .slice a.A a.l.length a.c] 24); have HU := hide (HS.out.alloc #[.int .i64 a.k, .int .i64 n, .string (strOf a.s), .slice a.A a.l.length a.c] 24)))
  refine wp_region_T [(0, 0), (1, 2), (2, 1), (3, 1), (4, 0), (5, 0), (6, 2), (7, 1), (8, 1), (9, 1), (10, 0), (12, 1), (13, 0), (14, 1), (11, 2), (15, 1), (16, 1), (17, 1), (18, 2), (19, 1), (20, 1)] (by kernel_rfl) (by kernel_rfl) (fun _ _ _ _ h => h) ?_
  have HS := hide HU.out.drew
  obtain ⟨⟨a0, a1, a2, a3⟩, ⟨b0, b1, b2, b3⟩⟩ := HG.out _ _ HS.out
  go_wp2_with (first
    | (refine wpT_nil ?_)   | ((with_reducible refine fromT_refl ?_); (try simp only [Act.put, List.setIfInBounds_toArray, List.set_cons_zero, List.set_cons_succ, List.getElem_toArray, List.getElem_cons_succ, List.getElem_cons_zero]))   | ((with_reducible refine fromT_mk (by assumption) ?_); (try simp only [Act.put, List.setIfInBounds_toArray, List.set_cons_zero, List.set_cons_succ, List.getElem_toArray, List.getElem_cons_succ, List.getElem_cons_zero]))   | (refine wpT_pure (v := ?_) rfl rfl ?_ ?_; rotate_left; (intro wx; go_simp; try go_bits) <;> (with_reducible rfl); (try simp only [Act.put, List.setIfInBounds_toArray, List.set_cons_zero, List.set_cons_succ, List.getElem_toArray, List.getElem_cons_succ, List.getElem_cons_zero]))   | (refine wpT_load (v := ?_) rfl rfl rfl ?_ ?_; rotate_left; (go_simp; try go_bits) <;> (with_reducible rfl); (try simp only [Act.put, List.setIfInBounds_toArray, List.set_cons_zero, List.set_cons_succ, List.getElem_toArray, List.getElem_cons_succ, List.getElem_cons_zero]))   | (refine wpT_read (v := ?_) rfl rfl ?_ ?_; rotate_left; (intro wx hx; go_simp; try go_bits) <;> (with_reducible rfl); (try simp only [Act.put, List.setIfInBounds_toArray, List.set_cons_zero, List.set_cons_succ, List.getElem_toArray, List.getElem_cons_succ, List.getElem_cons_zero]))   | (refine wpT_call rfl rfl ?_; intro K hK)   | (refine wpT_late rfl rfl ?_; intro K hK)   | (refine wpT_any rfl rfl ?_; intro K hK)   | (refine wpT_skip rfl rfl ?_; (try simp only [Act.put, List.setIfInBounds_toArray, List.set_cons_zero, List.set_cons_succ, List.getElem_toArray, List.getElem_cons_succ, List.getElem_cons_zero]))
    | (go_at_call 14; (with_reducible refine (HyU.out _ HS.out.below).mono ?_); rintro e w' ⟨rfl, hb⟩; have HS := hide (HS.out.call hb); obtain ⟨⟨a0, a1, a2, a3⟩, ⟨b0, b1, b2, b3⟩⟩ := HG.out _ _ HS.out)
    | (go_at_call 12; (with_reducible refine (Hsm.out _ HS.out.below).mono ?_); rintro e w' ⟨rfl, hb⟩; have HS := hide (HS.out.call hb); obtain ⟨⟨a0, a1, a2, a3⟩, ⟨b0, b1, b2, b3⟩⟩ := HG.out _ _ HS.out)
    | (go_at_call 15; (with_reducible refine (Hx.out _ HS.out.below).mono ?_); rintro e w' ⟨rfl, hb⟩; have HS := hide (HS.out.call hb); obtain ⟨⟨a0, a1, a2, a3⟩, ⟨b0, b1, b2, b3⟩⟩ := HG.out _ _ HS.out)
    | (go_at_call 10; (with_reducible refine (HAW.out _).mono ?_); rintro e w' ⟨rfl, hb⟩; have HB := hide (HS.out.below.trans (hb.mono HS.out.below.size))))
  go_ret
  exact ⟨rfl, HB.out⟩
set_option maxRecDepth 100000 in
set_option maxHeartbeats 1600000 in
theorem tk2 (a : Tm) (n : Int) (hn8 : I64 n) (w : World) (ha : TmOK w a) (h1 : ¬ 100 ≤ sizT a) (hm : mayT a = true) (hn : n ≠ 0) (hq : a.k = 2) (hk : a.k = 2 ∨ a.k = 4 ∨ a.k = 6) : Calls Try.prog 5 #[a.val, .int .i64 n] w fun e w' => e = .returned (.bool true) ∧ Below w.heap.size w w' := by
  have hS0 := (St.init w NoB).alloc #[.int .i64 a.k, .int .i64 a.n, .string (strOf a.s), .slice a.A a.l.length a.c] 24
  have HF : Hid (∀ W, St w NoB W [.cells w.heap.size #[.int .i64 a.k, .int .i64 a.n, .string (strOf a.s), .slice a.A a.l.length a.c] 24] →
      W.cell? ⟨w.heap.size, 0, none⟩ = some (.int .i64 a.k) ∧ W.cell? ⟨w.heap.size, 1, none⟩ = some (.int .i64 a.n) ∧ W.cell? ⟨w.heap.size, 2, none⟩ = some (.string (strOf a.s)) ∧ W.cell? ⟨w.heap.size, 3, none⟩ = some (.slice a.A a.l.length a.c)) :=
    hide (fun W h => ⟨h.cell 0 rfl 0, h.cell 0 rfl 1, h.cell 0 rfl 2, h.cell 0 rfl 3⟩)
  have HS := hide hS0
  clear hS0
  have Hsa := hide (fun W (h : Below w.heap.size w W) => Size_any a W (ha.on h))
  have HAW := hide (fun W => awake7_any W)
  have hsa : sizT a ≤ 100 := szT_le 6 [a] 0 (by omega)
  have hU : TmOK w (.mk a.k a.n [97] a.A a.c a.l) := .mk _ ha.rd ⟨ha.bd.1, ha.bd.2.1, (show ([97] : List UInt8).length ≤ 9223372036854775807 by simp), ha.bd.2.2.2⟩ (fun x hx => ha.kid hx)
  have hmu : mayT (.mk a.k a.n [97] a.A a.c a.l) = false := mayT_s (u := .mk a.k a.n [97] a.A a.c a.l) hk (show ([97] : List UInt8) ≠ [] by decide)
  have hsu : samT a (.mk a.k a.n [97] a.A a.c a.l) = false := sam_s (by rw [mayT_s0 hk hm]; decide)
  have eU : Tm.val (.mk a.k a.n [97] a.A a.c a.l) = .agg #[.int .i64 a.k, .int .i64 a.n, .string ⟨#[97]⟩, .slice a.A a.l.length a.c] := by
    show Value.agg #[.int .i64 a.k, .int .i64 a.n, .string (strOf [97]), .slice a.A a.l.length a.c] = _
    rw [strOf_eq [97]]
  have hfx : fixT a = true := by unfold fixT; rw [hm]; simp; omega
  have Hy := hide (fun W (h : Below w.heap.size w W) => may_any ha W h)
  rw [hm] at Hy
  have Hx := hide (fun W (h : Below w.heap.size w W) => fixed_any ha W h)
  rw [hfx] at Hx
  have HyU : Hid (∀ W, Below w.heap.size w W → Calls Try.prog 14 #[.agg #[.int .i64 a.k, .int .i64 a.n, .string ⟨#[97]⟩, .slice a.A a.l.length a.c]] W fun e w' => e = .returned (.bool false) ∧ Below W.heap.size W w') := hide (fun W h => by have := may_any hU W h; rw [hmu, eU] at this; exact this)
  have Hsm : Hid (∀ W, Below w.heap.size w W → Calls Try.prog 12 #[.agg #[.int .i64 a.k, .int .i64 a.n, .string (strOf a.s), .slice a.A a.l.length a.c], .agg #[.int .i64 a.k, .int .i64 a.n, .string ⟨#[97]⟩, .slice a.A a.l.length a.c]] W fun e w' => e = .returned (.bool false) ∧ Below W.heap.size W w') := hide (fun W h => by have := same_any a _ W (ha.on h) (hU.on h); rw [hsu, eU] at this; exact this)
  have HA : Hid (∀ W x, St w NoB W [.cells x #[.int .i64 a.k, .int .i64 a.n, .string (strOf a.s), .slice a.A a.l.length a.c] 24, .cells w.heap.size #[.int .i64 a.k, .int .i64 a.n, .string (strOf a.s), .slice a.A a.l.length a.c] 24] →
      W.cell? ⟨w.heap.size, 0, none⟩ = some (.int .i64 a.k) ∧ W.cell? ⟨x, 1, none⟩ = some (.int .i64 a.n) ∧ W.cell? ⟨x, 2, none⟩ = some (.string (strOf a.s)) ∧ W.frozen? ⟨x, 1, none⟩ = false ∧ W.frozen? ⟨x, 2, none⟩ = false) :=
    hide (fun W x h => ⟨h.cell 1 rfl 0, h.cell 0 rfl 1, h.cell 0 rfl 2, h.free 0 rfl 1, h.free 0 rfl 2⟩)
  have HG : Hid (∀ W x, St w NoB W [.cells x #[.int .i64 a.k, .int .i64 a.n, .string ⟨#[97]⟩, .slice a.A a.l.length a.c] 24, .cells w.heap.size #[.int .i64 a.k, .int .i64 a.n, .string (strOf a.s), .slice a.A a.l.length a.c] 24] →
      (W.cell? ⟨w.heap.size, 0, none⟩ = some (.int .i64 a.k) ∧ W.cell? ⟨w.heap.size, 1, none⟩ = some (.int .i64 a.n) ∧ W.cell? ⟨w.heap.size, 2, none⟩ = some (.string (strOf a.s)) ∧ W.cell? ⟨w.heap.size, 3, none⟩ = some (.slice a.A a.l.length a.c)) ∧
      (W.cell? ⟨x, 0, none⟩ = some (.int .i64 a.k) ∧ W.cell? ⟨x, 1, none⟩ = some (.int .i64 a.n) ∧ W.cell? ⟨x, 2, none⟩ = some (.string ⟨#[97]⟩) ∧ W.cell? ⟨x, 3, none⟩ = some (.slice a.A a.l.length a.c))) :=
    hide (fun W x h => ⟨⟨h.cell 1 rfl 0, h.cell 1 rfl 1, h.cell 1 rfl 2, h.cell 1 rfl 3⟩, ⟨h.cell 0 rfl 0, h.cell 0 rfl 1, h.cell 0 rfl 2, h.cell 0 rfl 3⟩⟩)
  have e0 : (n == 0) = false := by simp [hn]
  have e0' : decide (n = 0) = false := by simp [hn]
  have g2 : (a.k == 2) = true := by simp; omega
  have g2' : decide (a.k = 2) = true := by simp; omega
  have g4 : (a.k == 4) = false := by simp; omega
  have g4' : decide (a.k = 4) = false := by simp; omega
  have g6 : (a.k == 6) = false := by simp; omega
  have g6' : decide (a.k = 6) = false := by simp; omega
  have gn : (a.k != 1) = true := by simp; omega
  have gn' : decide (a.k ≠ 1) = true := by simp; omega
  clear ha hU hmu hsu hfx hm hn8 eU
  generalize sizT a = sa at *
  have d1 : decide ((100 : Int) ≤ (sa : Int)) = false := by simp; omega
  have d1' : decide (100 ≤ sa) = false := by simp; omega
  have HK := hide hk
  have HN := hide hn
  clear hk hn h1 hq
  unfold Tm.val Tm.row at *
  go_enter Try.func5, Try.ntmps5
  go_wp2_with (first
    | (go_at_call 9; (with_reducible refine (Hsa.out _ HS.out.below).mono ?_); rintro e w' ⟨rfl, hb⟩; have HS := hide (HS.out.call hb); obtain ⟨a0, a1, a2, a3⟩ := HF.out _ HS.out)
    | (go_at_call 14; (with_reducible refine (Hy.out _ HS.out.below).mono ?_); rintro e w' ⟨rfl, hb⟩; have HS := hide (HS.out.call hb); obtain ⟨a0, a1, a2, a3⟩ := HF.out _ HS.out; obtain ⟨z0, u1, u2, f1, f2⟩ := HA.out _ _ (HS.out.alloc #[.int .i64 a.k, .int .i64 a.n, .string (strOf a.s), .slice a.A a.l.length a.c] 24); have HU := hide (HS.out.alloc #[.int .i64 a.k, .int .i64 a.n, .string ⟨#[97]⟩, .slice a.A a.l.length a.c] 24)))
  refine wp_region_T [(0, 0), (1, 2), (2, 1), (3, 1), (4, 0), (5, 0), (6, 2), (7, 1), (8, 1), (9, 1), (10, 0), (12, 1), (13, 0), (14, 1), (11, 2), (15, 1), (16, 1), (17, 1), (18, 2), (19, 1), (20, 1)] (by kernel_rfl) (by kernel_rfl) (fun _ _ _ _ h => h) ?_
  have HS := hide HU.out.drew
  obtain ⟨⟨a0, a1, a2, a3⟩, ⟨b0, b1, b2, b3⟩⟩ := HG.out _ _ HS.out
  go_wp2_with (first
    | (refine wpT_nil ?_)   | ((with_reducible refine fromT_refl ?_); (try simp only [Act.put, List.setIfInBounds_toArray, List.set_cons_zero, List.set_cons_succ, List.getElem_toArray, List.getElem_cons_succ, List.getElem_cons_zero]))   | ((with_reducible refine fromT_mk (by assumption) ?_); (try simp only [Act.put, List.setIfInBounds_toArray, List.set_cons_zero, List.set_cons_succ, List.getElem_toArray, List.getElem_cons_succ, List.getElem_cons_zero]))   | (refine wpT_pure (v := ?_) rfl rfl ?_ ?_; rotate_left; (intro wx; go_simp; try go_bits) <;> (with_reducible rfl); (try simp only [Act.put, List.setIfInBounds_toArray, List.set_cons_zero, List.set_cons_succ, List.getElem_toArray, List.getElem_cons_succ, List.getElem_cons_zero]))   | (refine wpT_load (v := ?_) rfl rfl rfl ?_ ?_; rotate_left; (go_simp; try go_bits) <;> (with_reducible rfl); (try simp only [Act.put, List.setIfInBounds_toArray, List.set_cons_zero, List.set_cons_succ, List.getElem_toArray, List.getElem_cons_succ, List.getElem_cons_zero]))   | (refine wpT_read (v := ?_) rfl rfl ?_ ?_; rotate_left; (intro wx hx; go_simp; try go_bits) <;> (with_reducible rfl); (try simp only [Act.put, List.setIfInBounds_toArray, List.set_cons_zero, List.set_cons_succ, List.getElem_toArray, List.getElem_cons_succ, List.getElem_cons_zero]))   | (refine wpT_call rfl rfl ?_; intro K hK)   | (refine wpT_late rfl rfl ?_; intro K hK)   | (refine wpT_any rfl rfl ?_; intro K hK)   | (refine wpT_skip rfl rfl ?_; (try simp only [Act.put, List.setIfInBounds_toArray, List.set_cons_zero, List.set_cons_succ, List.getElem_toArray, List.getElem_cons_succ, List.getElem_cons_zero]))
    | (go_at_call 14; (with_reducible refine (HyU.out _ HS.out.below).mono ?_); rintro e w' ⟨rfl, hb⟩; have HS := hide (HS.out.call hb); obtain ⟨⟨a0, a1, a2, a3⟩, ⟨b0, b1, b2, b3⟩⟩ := HG.out _ _ HS.out)
    | (go_at_call 12; (with_reducible refine (Hsm.out _ HS.out.below).mono ?_); rintro e w' ⟨rfl, hb⟩; have HS := hide (HS.out.call hb); obtain ⟨⟨a0, a1, a2, a3⟩, ⟨b0, b1, b2, b3⟩⟩ := HG.out _ _ HS.out)
    | (go_at_call 15; (with_reducible refine (Hx.out _ HS.out.below).mono ?_); rintro e w' ⟨rfl, hb⟩; have HS := hide (HS.out.call hb); obtain ⟨⟨a0, a1, a2, a3⟩, ⟨b0, b1, b2, b3⟩⟩ := HG.out _ _ HS.out)
    | (go_at_call 10; (with_reducible refine (HAW.out _).mono ?_); rintro e w' ⟨rfl, hb⟩; have HB := hide (HS.out.below.trans (hb.mono HS.out.below.size))))
  go_ret
  exact ⟨rfl, HB.out⟩
set_option maxRecDepth 100000 in
set_option maxHeartbeats 1600000 in
theorem tk4 (a : Tm) (n : Int) (hn8 : I64 n) (w : World) (ha : TmOK w a) (h1 : ¬ 100 ≤ sizT a) (hm : mayT a = true) (hn : n ≠ 0) (hq : a.k = 4) (hk : a.k = 2 ∨ a.k = 4 ∨ a.k = 6) : Calls Try.prog 5 #[a.val, .int .i64 n] w fun e w' => e = .returned (.bool true) ∧ Below w.heap.size w w' := by
  have hS0 := (St.init w NoB).alloc #[.int .i64 a.k, .int .i64 a.n, .string (strOf a.s), .slice a.A a.l.length a.c] 24
  have HF : Hid (∀ W, St w NoB W [.cells w.heap.size #[.int .i64 a.k, .int .i64 a.n, .string (strOf a.s), .slice a.A a.l.length a.c] 24] →
      W.cell? ⟨w.heap.size, 0, none⟩ = some (.int .i64 a.k) ∧ W.cell? ⟨w.heap.size, 1, none⟩ = some (.int .i64 a.n) ∧ W.cell? ⟨w.heap.size, 2, none⟩ = some (.string (strOf a.s)) ∧ W.cell? ⟨w.heap.size, 3, none⟩ = some (.slice a.A a.l.length a.c)) :=
    hide (fun W h => ⟨h.cell 0 rfl 0, h.cell 0 rfl 1, h.cell 0 rfl 2, h.cell 0 rfl 3⟩)
  have HS := hide hS0
  clear hS0
  have Hsa := hide (fun W (h : Below w.heap.size w W) => Size_any a W (ha.on h))
  have HAW := hide (fun W => awake7_any W)
  have hsa : sizT a ≤ 100 := szT_le 6 [a] 0 (by omega)
  have hU : TmOK w (.mk a.k a.n [97] a.A a.c a.l) := .mk _ ha.rd ⟨ha.bd.1, ha.bd.2.1, (show ([97] : List UInt8).length ≤ 9223372036854775807 by simp), ha.bd.2.2.2⟩ (fun x hx => ha.kid hx)
  have hmu : mayT (.mk a.k a.n [97] a.A a.c a.l) = false := mayT_s (u := .mk a.k a.n [97] a.A a.c a.l) hk (show ([97] : List UInt8) ≠ [] by decide)
  have hsu : samT a (.mk a.k a.n [97] a.A a.c a.l) = false := sam_s (by rw [mayT_s0 hk hm]; decide)
  have eU : Tm.val (.mk a.k a.n [97] a.A a.c a.l) = .agg #[.int .i64 a.k, .int .i64 a.n, .string ⟨#[97]⟩, .slice a.A a.l.length a.c] := by
    show Value.agg #[.int .i64 a.k, .int .i64 a.n, .string (strOf [97]), .slice a.A a.l.length a.c] = _
    rw [strOf_eq [97]]
  have hfx : fixT a = true := by unfold fixT; rw [hm]; simp; omega
  have Hy := hide (fun W (h : Below w.heap.size w W) => may_any ha W h)
  rw [hm] at Hy
  have Hx := hide (fun W (h : Below w.heap.size w W) => fixed_any ha W h)
  rw [hfx] at Hx
  have HyU : Hid (∀ W, Below w.heap.size w W → Calls Try.prog 14 #[.agg #[.int .i64 a.k, .int .i64 a.n, .string ⟨#[97]⟩, .slice a.A a.l.length a.c]] W fun e w' => e = .returned (.bool false) ∧ Below W.heap.size W w') := hide (fun W h => by have := may_any hU W h; rw [hmu, eU] at this; exact this)
  have Hsm : Hid (∀ W, Below w.heap.size w W → Calls Try.prog 12 #[.agg #[.int .i64 a.k, .int .i64 a.n, .string (strOf a.s), .slice a.A a.l.length a.c], .agg #[.int .i64 a.k, .int .i64 a.n, .string ⟨#[97]⟩, .slice a.A a.l.length a.c]] W fun e w' => e = .returned (.bool false) ∧ Below W.heap.size W w') := hide (fun W h => by have := same_any a _ W (ha.on h) (hU.on h); rw [hsu, eU] at this; exact this)
  have HA : Hid (∀ W x, St w NoB W [.cells x #[.int .i64 a.k, .int .i64 a.n, .string (strOf a.s), .slice a.A a.l.length a.c] 24, .cells w.heap.size #[.int .i64 a.k, .int .i64 a.n, .string (strOf a.s), .slice a.A a.l.length a.c] 24] →
      W.cell? ⟨w.heap.size, 0, none⟩ = some (.int .i64 a.k) ∧ W.cell? ⟨x, 1, none⟩ = some (.int .i64 a.n) ∧ W.cell? ⟨x, 2, none⟩ = some (.string (strOf a.s)) ∧ W.frozen? ⟨x, 1, none⟩ = false ∧ W.frozen? ⟨x, 2, none⟩ = false) :=
    hide (fun W x h => ⟨h.cell 1 rfl 0, h.cell 0 rfl 1, h.cell 0 rfl 2, h.free 0 rfl 1, h.free 0 rfl 2⟩)
  have HG : Hid (∀ W x, St w NoB W [.cells x #[.int .i64 a.k, .int .i64 a.n, .string ⟨#[97]⟩, .slice a.A a.l.length a.c] 24, .cells w.heap.size #[.int .i64 a.k, .int .i64 a.n, .string (strOf a.s), .slice a.A a.l.length a.c] 24] →
      (W.cell? ⟨w.heap.size, 0, none⟩ = some (.int .i64 a.k) ∧ W.cell? ⟨w.heap.size, 1, none⟩ = some (.int .i64 a.n) ∧ W.cell? ⟨w.heap.size, 2, none⟩ = some (.string (strOf a.s)) ∧ W.cell? ⟨w.heap.size, 3, none⟩ = some (.slice a.A a.l.length a.c)) ∧
      (W.cell? ⟨x, 0, none⟩ = some (.int .i64 a.k) ∧ W.cell? ⟨x, 1, none⟩ = some (.int .i64 a.n) ∧ W.cell? ⟨x, 2, none⟩ = some (.string ⟨#[97]⟩) ∧ W.cell? ⟨x, 3, none⟩ = some (.slice a.A a.l.length a.c))) :=
    hide (fun W x h => ⟨⟨h.cell 1 rfl 0, h.cell 1 rfl 1, h.cell 1 rfl 2, h.cell 1 rfl 3⟩, ⟨h.cell 0 rfl 0, h.cell 0 rfl 1, h.cell 0 rfl 2, h.cell 0 rfl 3⟩⟩)
  have e0 : (n == 0) = false := by simp [hn]
  have e0' : decide (n = 0) = false := by simp [hn]
  have g2 : (a.k == 2) = false := by simp; omega
  have g2' : decide (a.k = 2) = false := by simp; omega
  have g4 : (a.k == 4) = true := by simp; omega
  have g4' : decide (a.k = 4) = true := by simp; omega
  have g6 : (a.k == 6) = false := by simp; omega
  have g6' : decide (a.k = 6) = false := by simp; omega
  have gn : (a.k != 1) = true := by simp; omega
  have gn' : decide (a.k ≠ 1) = true := by simp; omega
  clear ha hU hmu hsu hfx hm hn8 eU
  generalize sizT a = sa at *
  have d1 : decide ((100 : Int) ≤ (sa : Int)) = false := by simp; omega
  have d1' : decide (100 ≤ sa) = false := by simp; omega
  have HK := hide hk
  have HN := hide hn
  clear hk hn h1 hq
  unfold Tm.val Tm.row at *
  go_enter Try.func5, Try.ntmps5
  go_wp2_with (first
    | (go_at_call 9; (with_reducible refine (Hsa.out _ HS.out.below).mono ?_); rintro e w' ⟨rfl, hb⟩; have HS := hide (HS.out.call hb); obtain ⟨a0, a1, a2, a3⟩ := HF.out _ HS.out)
    | (go_at_call 14; (with_reducible refine (Hy.out _ HS.out.below).mono ?_); rintro e w' ⟨rfl, hb⟩; have HS := hide (HS.out.call hb); obtain ⟨a0, a1, a2, a3⟩ := HF.out _ HS.out; obtain ⟨z0, u1, u2, f1, f2⟩ := HA.out _ _ (HS.out.alloc #[.int .i64 a.k, .int .i64 a.n, .string (strOf a.s), .slice a.A a.l.length a.c] 24); have HU := hide (HS.out.alloc #[.int .i64 a.k, .int .i64 a.n, .string ⟨#[97]⟩, .slice a.A a.l.length a.c] 24)))
  refine wp_region_T [(0, 0), (1, 2), (2, 1), (3, 1), (4, 0), (5, 0), (6, 2), (7, 1), (8, 1), (9, 1), (10, 0), (12, 1), (13, 0), (14, 1), (11, 2), (15, 1), (16, 1), (17, 1), (18, 2), (19, 1), (20, 1)] (by kernel_rfl) (by kernel_rfl) (fun _ _ _ _ h => h) ?_
  have HS := hide HU.out.drew
  obtain ⟨⟨a0, a1, a2, a3⟩, ⟨b0, b1, b2, b3⟩⟩ := HG.out _ _ HS.out
  go_wp2_with (first
    | (refine wpT_nil ?_)   | ((with_reducible refine fromT_refl ?_); (try simp only [Act.put, List.setIfInBounds_toArray, List.set_cons_zero, List.set_cons_succ, List.getElem_toArray, List.getElem_cons_succ, List.getElem_cons_zero]))   | ((with_reducible refine fromT_mk (by assumption) ?_); (try simp only [Act.put, List.setIfInBounds_toArray, List.set_cons_zero, List.set_cons_succ, List.getElem_toArray, List.getElem_cons_succ, List.getElem_cons_zero]))   | (refine wpT_pure (v := ?_) rfl rfl ?_ ?_; rotate_left; (intro wx; go_simp; try go_bits) <;> (with_reducible rfl); (try simp only [Act.put, List.setIfInBounds_toArray, List.set_cons_zero, List.set_cons_succ, List.getElem_toArray, List.getElem_cons_succ, List.getElem_cons_zero]))   | (refine wpT_load (v := ?_) rfl rfl rfl ?_ ?_; rotate_left; (go_simp; try go_bits) <;> (with_reducible rfl); (try simp only [Act.put, List.setIfInBounds_toArray, List.set_cons_zero, List.set_cons_succ, List.getElem_toArray, List.getElem_cons_succ, List.getElem_cons_zero]))   | (refine wpT_read (v := ?_) rfl rfl ?_ ?_; rotate_left; (intro wx hx; go_simp; try go_bits) <;> (with_reducible rfl); (try simp only [Act.put, List.setIfInBounds_toArray, List.set_cons_zero, List.set_cons_succ, List.getElem_toArray, List.getElem_cons_succ, List.getElem_cons_zero]))   | (refine wpT_call rfl rfl ?_; intro K hK)   | (refine wpT_late rfl rfl ?_; intro K hK)   | (refine wpT_any rfl rfl ?_; intro K hK)   | (refine wpT_skip rfl rfl ?_; (try simp only [Act.put, List.setIfInBounds_toArray, List.set_cons_zero, List.set_cons_succ, List.getElem_toArray, List.getElem_cons_succ, List.getElem_cons_zero]))
    | (go_at_call 14; (with_reducible refine (HyU.out _ HS.out.below).mono ?_); rintro e w' ⟨rfl, hb⟩; have HS := hide (HS.out.call hb); obtain ⟨⟨a0, a1, a2, a3⟩, ⟨b0, b1, b2, b3⟩⟩ := HG.out _ _ HS.out)
    | (go_at_call 12; (with_reducible refine (Hsm.out _ HS.out.below).mono ?_); rintro e w' ⟨rfl, hb⟩; have HS := hide (HS.out.call hb); obtain ⟨⟨a0, a1, a2, a3⟩, ⟨b0, b1, b2, b3⟩⟩ := HG.out _ _ HS.out)
    | (go_at_call 15; (with_reducible refine (Hx.out _ HS.out.below).mono ?_); rintro e w' ⟨rfl, hb⟩; have HS := hide (HS.out.call hb); obtain ⟨⟨a0, a1, a2, a3⟩, ⟨b0, b1, b2, b3⟩⟩ := HG.out _ _ HS.out)
    | (go_at_call 10; (with_reducible refine (HAW.out _).mono ?_); rintro e w' ⟨rfl, hb⟩; have HB := hide (HS.out.below.trans (hb.mono HS.out.below.size))))
  go_ret
  exact ⟨rfl, HB.out⟩
set_option maxRecDepth 100000 in
set_option maxHeartbeats 1600000 in
theorem tk6 (a : Tm) (n : Int) (hn8 : I64 n) (w : World) (ha : TmOK w a) (h1 : ¬ 100 ≤ sizT a) (hm : mayT a = true) (hn : n ≠ 0) (hq : a.k = 6) (hk : a.k = 2 ∨ a.k = 4 ∨ a.k = 6) : Calls Try.prog 5 #[a.val, .int .i64 n] w fun e w' => e = .returned (.bool true) ∧ Below w.heap.size w w' := by
  have hS0 := (St.init w NoB).alloc #[.int .i64 a.k, .int .i64 a.n, .string (strOf a.s), .slice a.A a.l.length a.c] 24
  have HF : Hid (∀ W, St w NoB W [.cells w.heap.size #[.int .i64 a.k, .int .i64 a.n, .string (strOf a.s), .slice a.A a.l.length a.c] 24] →
      W.cell? ⟨w.heap.size, 0, none⟩ = some (.int .i64 a.k) ∧ W.cell? ⟨w.heap.size, 1, none⟩ = some (.int .i64 a.n) ∧ W.cell? ⟨w.heap.size, 2, none⟩ = some (.string (strOf a.s)) ∧ W.cell? ⟨w.heap.size, 3, none⟩ = some (.slice a.A a.l.length a.c)) :=
    hide (fun W h => ⟨h.cell 0 rfl 0, h.cell 0 rfl 1, h.cell 0 rfl 2, h.cell 0 rfl 3⟩)
  have HS := hide hS0
  clear hS0
  have Hsa := hide (fun W (h : Below w.heap.size w W) => Size_any a W (ha.on h))
  have HAW := hide (fun W => awake7_any W)
  have hsa : sizT a ≤ 100 := szT_le 6 [a] 0 (by omega)
  have hU : TmOK w (.mk a.k a.n [97] a.A a.c a.l) := .mk _ ha.rd ⟨ha.bd.1, ha.bd.2.1, (show ([97] : List UInt8).length ≤ 9223372036854775807 by simp), ha.bd.2.2.2⟩ (fun x hx => ha.kid hx)
  have hmu : mayT (.mk a.k a.n [97] a.A a.c a.l) = false := mayT_s (u := .mk a.k a.n [97] a.A a.c a.l) hk (show ([97] : List UInt8) ≠ [] by decide)
  have hsu : samT a (.mk a.k a.n [97] a.A a.c a.l) = false := sam_s (by rw [mayT_s0 hk hm]; decide)
  have eU : Tm.val (.mk a.k a.n [97] a.A a.c a.l) = .agg #[.int .i64 a.k, .int .i64 a.n, .string ⟨#[97]⟩, .slice a.A a.l.length a.c] := by
    show Value.agg #[.int .i64 a.k, .int .i64 a.n, .string (strOf [97]), .slice a.A a.l.length a.c] = _
    rw [strOf_eq [97]]
  have hfx : fixT a = true := by unfold fixT; rw [hm]; simp; omega
  have Hy := hide (fun W (h : Below w.heap.size w W) => may_any ha W h)
  rw [hm] at Hy
  have Hx := hide (fun W (h : Below w.heap.size w W) => fixed_any ha W h)
  rw [hfx] at Hx
  have HyU : Hid (∀ W, Below w.heap.size w W → Calls Try.prog 14 #[.agg #[.int .i64 a.k, .int .i64 a.n, .string ⟨#[97]⟩, .slice a.A a.l.length a.c]] W fun e w' => e = .returned (.bool false) ∧ Below W.heap.size W w') := hide (fun W h => by have := may_any hU W h; rw [hmu, eU] at this; exact this)
  have Hsm : Hid (∀ W, Below w.heap.size w W → Calls Try.prog 12 #[.agg #[.int .i64 a.k, .int .i64 a.n, .string (strOf a.s), .slice a.A a.l.length a.c], .agg #[.int .i64 a.k, .int .i64 a.n, .string ⟨#[97]⟩, .slice a.A a.l.length a.c]] W fun e w' => e = .returned (.bool false) ∧ Below W.heap.size W w') := hide (fun W h => by have := same_any a _ W (ha.on h) (hU.on h); rw [hsu, eU] at this; exact this)
  have HA : Hid (∀ W x, St w NoB W [.cells x #[.int .i64 a.k, .int .i64 a.n, .string (strOf a.s), .slice a.A a.l.length a.c] 24, .cells w.heap.size #[.int .i64 a.k, .int .i64 a.n, .string (strOf a.s), .slice a.A a.l.length a.c] 24] →
      W.cell? ⟨w.heap.size, 0, none⟩ = some (.int .i64 a.k) ∧ W.cell? ⟨x, 1, none⟩ = some (.int .i64 a.n) ∧ W.cell? ⟨x, 2, none⟩ = some (.string (strOf a.s)) ∧ W.frozen? ⟨x, 1, none⟩ = false ∧ W.frozen? ⟨x, 2, none⟩ = false) :=
    hide (fun W x h => ⟨h.cell 1 rfl 0, h.cell 0 rfl 1, h.cell 0 rfl 2, h.free 0 rfl 1, h.free 0 rfl 2⟩)
  have HG : Hid (∀ W x, St w NoB W [.cells x #[.int .i64 a.k, .int .i64 a.n, .string ⟨#[97]⟩, .slice a.A a.l.length a.c] 24, .cells w.heap.size #[.int .i64 a.k, .int .i64 a.n, .string (strOf a.s), .slice a.A a.l.length a.c] 24] →
      (W.cell? ⟨w.heap.size, 0, none⟩ = some (.int .i64 a.k) ∧ W.cell? ⟨w.heap.size, 1, none⟩ = some (.int .i64 a.n) ∧ W.cell? ⟨w.heap.size, 2, none⟩ = some (.string (strOf a.s)) ∧ W.cell? ⟨w.heap.size, 3, none⟩ = some (.slice a.A a.l.length a.c)) ∧
      (W.cell? ⟨x, 0, none⟩ = some (.int .i64 a.k) ∧ W.cell? ⟨x, 1, none⟩ = some (.int .i64 a.n) ∧ W.cell? ⟨x, 2, none⟩ = some (.string ⟨#[97]⟩) ∧ W.cell? ⟨x, 3, none⟩ = some (.slice a.A a.l.length a.c))) :=
    hide (fun W x h => ⟨⟨h.cell 1 rfl 0, h.cell 1 rfl 1, h.cell 1 rfl 2, h.cell 1 rfl 3⟩, ⟨h.cell 0 rfl 0, h.cell 0 rfl 1, h.cell 0 rfl 2, h.cell 0 rfl 3⟩⟩)
  have e0 : (n == 0) = false := by simp [hn]
  have e0' : decide (n = 0) = false := by simp [hn]
  have g2 : (a.k == 2) = false := by simp; omega
  have g2' : decide (a.k = 2) = false := by simp; omega
  have g4 : (a.k == 4) = false := by simp; omega
  have g4' : decide (a.k = 4) = false := by simp; omega
  have g6 : (a.k == 6) = true := by simp; omega
  have g6' : decide (a.k = 6) = true := by simp; omega
  have gn : (a.k != 1) = true := by simp; omega
  have gn' : decide (a.k ≠ 1) = true := by simp; omega
  clear ha hU hmu hsu hfx hm hn8 eU
  generalize sizT a = sa at *
  have d1 : decide ((100 : Int) ≤ (sa : Int)) = false := by simp; omega
  have d1' : decide (100 ≤ sa) = false := by simp; omega
  have HK := hide hk
  have HN := hide hn
  clear hk hn h1 hq
  unfold Tm.val Tm.row at *
  go_enter Try.func5, Try.ntmps5
  go_wp2_with (first
    | (go_at_call 9; (with_reducible refine (Hsa.out _ HS.out.below).mono ?_); rintro e w' ⟨rfl, hb⟩; have HS := hide (HS.out.call hb); obtain ⟨a0, a1, a2, a3⟩ := HF.out _ HS.out)
    | (go_at_call 14; (with_reducible refine (Hy.out _ HS.out.below).mono ?_); rintro e w' ⟨rfl, hb⟩; have HS := hide (HS.out.call hb); obtain ⟨a0, a1, a2, a3⟩ := HF.out _ HS.out; obtain ⟨z0, u1, u2, f1, f2⟩ := HA.out _ _ (HS.out.alloc #[.int .i64 a.k, .int .i64 a.n, .string (strOf a.s), .slice a.A a.l.length a.c] 24); have HU := hide (HS.out.alloc #[.int .i64 a.k, .int .i64 a.n, .string ⟨#[97]⟩, .slice a.A a.l.length a.c] 24)))
  refine wp_region_T [(0, 0), (1, 2), (2, 1), (3, 1), (4, 0), (5, 0), (6, 2), (7, 1), (8, 1), (9, 1), (10, 0), (12, 1), (13, 0), (14, 1), (11, 2), (15, 1), (16, 1), (17, 1), (18, 2), (19, 1), (20, 1)] (by kernel_rfl) (by kernel_rfl) (fun _ _ _ _ h => h) ?_
  have HS := hide HU.out.drew
  obtain ⟨⟨a0, a1, a2, a3⟩, ⟨b0, b1, b2, b3⟩⟩ := HG.out _ _ HS.out
  go_wp2_with (first
    | (refine wpT_nil ?_)   | ((with_reducible refine fromT_refl ?_); (try simp only [Act.put, List.setIfInBounds_toArray, List.set_cons_zero, List.set_cons_succ, List.getElem_toArray, List.getElem_cons_succ, List.getElem_cons_zero]))   | ((with_reducible refine fromT_mk (by assumption) ?_); (try simp only [Act.put, List.setIfInBounds_toArray, List.set_cons_zero, List.set_cons_succ, List.getElem_toArray, List.getElem_cons_succ, List.getElem_cons_zero]))   | (refine wpT_pure (v := ?_) rfl rfl ?_ ?_; rotate_left; (intro wx; go_simp; try go_bits) <;> (with_reducible rfl); (try simp only [Act.put, List.setIfInBounds_toArray, List.set_cons_zero, List.set_cons_succ, List.getElem_toArray, List.getElem_cons_succ, List.getElem_cons_zero]))   | (refine wpT_load (v := ?_) rfl rfl rfl ?_ ?_; rotate_left; (go_simp; try go_bits) <;> (with_reducible rfl); (try simp only [Act.put, List.setIfInBounds_toArray, List.set_cons_zero, List.set_cons_succ, List.getElem_toArray, List.getElem_cons_succ, List.getElem_cons_zero]))   | (refine wpT_read (v := ?_) rfl rfl ?_ ?_; rotate_left; (intro wx hx; go_simp; try go_bits) <;> (with_reducible rfl); (try simp only [Act.put, List.setIfInBounds_toArray, List.set_cons_zero, List.set_cons_succ, List.getElem_toArray, List.getElem_cons_succ, List.getElem_cons_zero]))   | (refine wpT_call rfl rfl ?_; intro K hK)   | (refine wpT_late rfl rfl ?_; intro K hK)   | (refine wpT_any rfl rfl ?_; intro K hK)   | (refine wpT_skip rfl rfl ?_; (try simp only [Act.put, List.setIfInBounds_toArray, List.set_cons_zero, List.set_cons_succ, List.getElem_toArray, List.getElem_cons_succ, List.getElem_cons_zero]))
    | (go_at_call 14; (with_reducible refine (HyU.out _ HS.out.below).mono ?_); rintro e w' ⟨rfl, hb⟩; have HS := hide (HS.out.call hb); obtain ⟨⟨a0, a1, a2, a3⟩, ⟨b0, b1, b2, b3⟩⟩ := HG.out _ _ HS.out)
    | (go_at_call 12; (with_reducible refine (Hsm.out _ HS.out.below).mono ?_); rintro e w' ⟨rfl, hb⟩; have HS := hide (HS.out.call hb); obtain ⟨⟨a0, a1, a2, a3⟩, ⟨b0, b1, b2, b3⟩⟩ := HG.out _ _ HS.out)
    | (go_at_call 15; (with_reducible refine (Hx.out _ HS.out.below).mono ?_); rintro e w' ⟨rfl, hb⟩; have HS := hide (HS.out.call hb); obtain ⟨⟨a0, a1, a2, a3⟩, ⟨b0, b1, b2, b3⟩⟩ := HG.out _ _ HS.out)
    | (go_at_call 10; (with_reducible refine (HAW.out _).mono ?_); rintro e w' ⟨rfl, hb⟩; have HB := hide (HS.out.below.trans (hb.mono HS.out.below.size))))
  go_ret
  exact ⟨rfl, HB.out⟩
set_option maxRecDepth 100000 in
set_option maxHeartbeats 1600000 in
theorem termKinds_walk (a : Tm) (n : Int) (hn8 : I64 n) (w : World) (ha : TmOK w a) : Calls Try.prog 5 #[a.val, .int .i64 n] w fun e w' => e = .returned (.bool true) ∧ Below w.heap.size w w' := by
  by_cases hall : ¬ 100 ≤ sizT a ∧ mayT a = true ∧ n ≠ 0
  · obtain ⟨h1, hm, hn⟩ := hall
    rcases mayT_k hm with h | h | h | h | h | h | h
    · exact tk1 a n hn8 w ha h1 hm hn h (.inl h)
    · exact tk2 a n hn8 w ha h1 hm hn h (.inl h)
    · exact tk3 a n hn8 w ha h1 hm hn (by omega) (.inr (.inl h))
    · exact tk4 a n hn8 w ha h1 hm hn h (.inr (.inl h))
    · exact tk3 a n hn8 w ha h1 hm hn (by omega) (.inr (.inr (.inl h)))
    · exact tk6 a n hn8 w ha h1 hm hn h (.inr (.inr h))
    · exact tk3 a n hn8 w ha h1 hm hn (by omega) (.inr (.inr (.inr h)))
  have hS0 := (St.init w NoB).alloc #[.int .i64 a.k, .int .i64 a.n, .string (strOf a.s), .slice a.A a.l.length a.c] 24
  have HF : Hid (∀ W, St w NoB W [.cells w.heap.size #[.int .i64 a.k, .int .i64 a.n, .string (strOf a.s), .slice a.A a.l.length a.c] 24] →
      W.cell? ⟨w.heap.size, 0, none⟩ = some (.int .i64 a.k) ∧ W.cell? ⟨w.heap.size, 1, none⟩ = some (.int .i64 a.n) ∧ W.cell? ⟨w.heap.size, 2, none⟩ = some (.string (strOf a.s)) ∧ W.cell? ⟨w.heap.size, 3, none⟩ = some (.slice a.A a.l.length a.c)) :=
    hide (fun W h => ⟨h.cell 0 rfl 0, h.cell 0 rfl 1, h.cell 0 rfl 2, h.cell 0 rfl 3⟩)
  have HS := hide hS0
  clear hS0
  have Hsa := hide (fun W (h : Below w.heap.size w W) => Size_any a W (ha.on h))
  have HAW := hide (fun W => awake7_any W)
  have hsa : sizT a ≤ 100 := szT_le 6 [a] 0 (by omega)
  have Hy := hide (fun W (h : Below w.heap.size w W) => may_any ha W h)
  have HALL := hide hall
  clear ha hall hn8
  generalize sizT a = sa at *
  generalize mayT a = mm at *
  unfold Tm.val Tm.row at *
  by_cases h1 : 100 ≤ sa
  · have d1 : decide ((100 : Int) ≤ (sa : Int)) = true := by simp; omega
    have d1' : decide (100 ≤ sa) = true := by simp; omega
    go_enter Try.func5, Try.ntmps5
    go_wp2_with (first
      | (go_at_call 9; (with_reducible refine (Hsa.out _ HS.out.below).mono ?_); rintro e w' ⟨rfl, hb⟩; have HS := hide (HS.out.call hb); obtain ⟨a0, a1, a2, a3⟩ := HF.out _ HS.out)
      | (go_at_call 14; (with_reducible refine (Hy.out _ HS.out.below).mono ?_); rintro e w' ⟨rfl, hb⟩; have HS := hide (HS.out.call hb); obtain ⟨a0, a1, a2, a3⟩ := HF.out _ HS.out)
      | (go_at_call 10; (with_reducible refine (HAW.out _).mono ?_); rintro e w' ⟨rfl, hb⟩; have HB := hide (HS.out.below.trans (hb.mono HS.out.below.size))))
    go_ret
    exact ⟨rfl, HB.out⟩
  have d1 : decide ((100 : Int) ≤ (sa : Int)) = false := by simp; omega
  have d1' : decide (100 ≤ sa) = false := by simp; omega
  cases mm
  · clear HALL h1
    go_enter Try.func5, Try.ntmps5
    go_wp2_with (first
      | (go_at_call 9; (with_reducible refine (Hsa.out _ HS.out.below).mono ?_); rintro e w' ⟨rfl, hb⟩; have HS := hide (HS.out.call hb); obtain ⟨a0, a1, a2, a3⟩ := HF.out _ HS.out)
      | (go_at_call 14; (with_reducible refine (Hy.out _ HS.out.below).mono ?_); rintro e w' ⟨rfl, hb⟩; have HS := hide (HS.out.call hb); obtain ⟨a0, a1, a2, a3⟩ := HF.out _ HS.out)
      | (go_at_call 10; (with_reducible refine (HAW.out _).mono ?_); rintro e w' ⟨rfl, hb⟩; have HB := hide (HS.out.below.trans (hb.mono HS.out.below.size))))
    go_ret
    exact ⟨rfl, HB.out⟩
  have h0 : n = 0 := by
    by_cases h : n = 0
    · exact h
    · exact absurd ⟨h1, rfl, h⟩ HALL.out
  subst h0
  clear HALL h1
  go_enter Try.func5, Try.ntmps5
  go_wp2_with (first
    | (go_at_call 9; (with_reducible refine (Hsa.out _ HS.out.below).mono ?_); rintro e w' ⟨rfl, hb⟩; have HS := hide (HS.out.call hb); obtain ⟨a0, a1, a2, a3⟩ := HF.out _ HS.out)
    | (go_at_call 14; (with_reducible refine (Hy.out _ HS.out.below).mono ?_); rintro e w' ⟨rfl, hb⟩; have HS := hide (HS.out.call hb); obtain ⟨a0, a1, a2, a3⟩ := HF.out _ HS.out)
    | (go_at_call 10; (with_reducible refine (HAW.out _).mono ?_); rintro e w' ⟨rfl, hb⟩; have HB := hide (HS.out.below.trans (hb.mono HS.out.below.size))))
  go_ret
  exact ⟨rfl, HB.out⟩
end Go.Proofs.Ytjamoifenkdneaa
