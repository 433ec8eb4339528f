/-
  Layer 18: facts compared, by the program and by the page.
-/
import Derived.Test.YthpioncehigoaaaYa
set_option linter.unusedVariables false
namespace Go.Proofs.Ythpioncehigoaaa
open Go.RowKit
set_option linter.unusedSimpArgs false

theorem cmpS_ne {a b : List UInt8} (h : a ≠ b) : cmpS a b = sgn (Op.bytesLess a b) := by
  unfold sgn
  rcases bl_tri a b with h1 | h1 | h1
  · rw [if_pos h1, cmpS_lt.2 h1]
  · exact absurd h1 h
  · rw [if_neg (bl_no h1), cmpS_gt.2 h1]
theorem cmpI_ne2 {a b : Int} (h : a ≠ b) : cmpI a b = sgn (decide (a < b)) := by
  unfold sgn cmpI
  by_cases h1 : a < b
  · simp [h1]
  · have : b < a := by omega
    simp [h1, this]
theorem orI_0 (a : Int) : orI 0 a = a := rfl
theorem orI_n {a : Int} (h : a ≠ 0) (b : Int) : orI a b = a := by unfold orI; rw [if_neg h]
theorem cmpF_n {f g : Fc} (h : f.name ≠ g.name) : cmpF f g = sgn (Op.bytesLess f.name g.name) := by
  unfold cmpF
  rw [orL4, cmpS_ne h, orI_n (sgn_ne _)]
theorem cmpF_l {f g : Fc} (hn : f.name = g.name) (h : f.ts.length ≠ g.ts.length) : cmpF f g = sgn (decide ((f.ts.length : Int) < (g.ts.length : Int))) := by
  unfold cmpF
  rw [orL4, cmpS_eq.2 hn, orI_0, cmpI_ne2 (by omega), orI_n (sgn_ne _)]
theorem cmpF_t {f g : Fc} (hn : f.name = g.name) (hl : f.ts.length = g.ts.length) (h : cmpL cmpA f.ts g.ts ≠ 0) : cmpF f g = cmpL cmpA f.ts g.ts := by
  unfold cmpF
  rw [orL4, cmpS_eq.2 hn, orI_0, hl, cmpI_ord.self, orI_0, orI_n h]
theorem cmpF_o {f g : Fc} (hn : f.name = g.name) (hl : f.ts.length = g.ts.length) (ht : cmpL cmpA f.ts g.ts = 0) (h : f.o ≠ g.o) : cmpF f g = sgn (decide (f.o < g.o)) := by
  unfold cmpF
  rw [orL4, cmpS_eq.2 hn, orI_0, hl, cmpI_ord.self, orI_0, ht, orI_0, cmpI_ne2 h]
theorem cmpF_z {f g : Fc} (hn : f.name = g.name) (hl : f.ts.length = g.ts.length) (ht : cmpL cmpA f.ts g.ts = 0) (h : f.o = g.o) : cmpF f g = 0 := by
  unfold cmpF
  rw [orL4, cmpS_eq.2 hn, orI_0, hl, cmpI_ord.self, orI_0, ht, orI_0, h, cmpI_ord.self]
theorem nanU_any (a : Int) (w : World) : Calls Try.prog 56 #[.int .u32 a] w fun e w' => e = .returned (.bool false) ∧ w = w' := by
  go_enter Try.func56, Try.ntmps56
  go_wp2_with fail
  go_ret
  exact ⟨rfl, rfl⟩
set_option maxRecDepth 100000 in
set_option maxHeartbeats 800000 in
theorem cmpU_any (a b : Int) (w : World) : Calls Try.prog 32 #[.int .u32 a, .int .u32 b] w fun e w' => e = .returned (.int .i64 (cmpI a b)) ∧ w = w' := by
  have H1 := hide (fun W => nanU_any a W)
  have H2 := hide (fun W => nanU_any b W)
  unfold cmpI
  by_cases h1 : a < b
  · have d1 : decide (a < b) = true := decide_eq_true h1
    rw [if_pos h1]
    go_enter Try.func32, Try.ntmps32
    go_wp2_with (first
      | (go_at_call 56; (with_reducible refine (H1.out _).mono ?_); rintro e w' ⟨rfl, rfl⟩)
      | (go_at_call 56; (with_reducible refine (H2.out _).mono ?_); rintro e w' ⟨rfl, rfl⟩))
    go_ret
    exact ⟨rfl, rfl⟩
  · have d1 : decide (a < b) = false := decide_eq_false h1
    rw [if_neg h1]
    by_cases h2 : b < a
    · have d2 : decide (b < a) = true := decide_eq_true h2
      rw [if_pos h2]
      go_enter Try.func32, Try.ntmps32
      go_wp2_with (first
        | (go_at_call 56; (with_reducible refine (H1.out _).mono ?_); rintro e w' ⟨rfl, rfl⟩)
        | (go_at_call 56; (with_reducible refine (H2.out _).mono ?_); rintro e w' ⟨rfl, rfl⟩))
      go_ret
      exact ⟨rfl, rfl⟩
    · have d2 : decide (b < a) = false := decide_eq_false h2
      rw [if_neg h2]
      go_enter Try.func32, Try.ntmps32
      go_wp2_with (first
        | (go_at_call 56; (with_reducible refine (H1.out _).mono ?_); rintro e w' ⟨rfl, rfl⟩)
        | (go_at_call 56; (with_reducible refine (H2.out _).mono ?_); rintro e w' ⟨rfl, rfl⟩))
      go_ret
      exact ⟨rfl, rfl⟩
theorem enCmp (args : Array Value) (w : World) : (callFunc 31 args).run Try.prog w = .ok (.enter 31 args) w := by kernel_rfl
set_option maxRecDepth 100000 in
set_option maxHeartbeats 1600000 in
theorem cmpFc_any (f g : Fc) (w : World) (hf : FcOK w f) (hg : FcOK w g) : Calls Try.prog 11 #[f.val, g.val] w fun e w' => e = .returned (.int .i64 (cmpF f g)) ∧ Below w.heap.size w w' := by
  have hS0 := ((St.init w NoB).alloc #[.string (strOf f.name), .slice f.A f.ts.length f.c, .int .u32 f.o] 27).alloc #[.string (strOf g.name), .slice g.A g.ts.length g.c, .int .u32 g.o] 27
  rw [size_alloc1] at hS0
  have H1 := hide (fun W => cmpS_any f.name g.name W)
  have H2 := hide (fun W => cmpI_any (f.ts.length : Int) (g.ts.length : Int) W)
  have H3 := hide (fun W (h : Below w.heap.size w W) => cmpF_any 31 enCmp #[] cmpA f.row g.row f.ts g.ts W (hf.ts.on h) (hg.ts.on h) (fun w' hw x hx y hy => compare_any x y w' ((hf.ts.2 x hx).on (h.trans (hw.mono h.size))) ((hg.ts.2 y hy).on (h.trans (hw.mono h.size)))))
  have H4 := hide (fun W => cmpU_any f.o g.o W)
  have hbf := hf.bd
  have hbg := hg.bd
  have HV : Hid (cmpF f g = orL [cmpS f.name g.name, cmpI (f.ts.length : Int) (g.ts.length : Int), cmpL cmpA f.ts g.ts, cmpI f.o g.o]) := hide rfl
  have HS := hide hS0
  clear hS0 hf hg
  generalize cmpF f g = res at HV ⊢
  generalize cmpS f.name g.name = r1 at *
  generalize cmpI (f.ts.length : Int) (g.ts.length : Int) = r2 at *
  generalize cmpL cmpA f.ts g.ts = r3 at *
  generalize cmpI f.o g.o = r4 at *
  have H5 := hide (fun W v (h : Rd W v 1 4 (ivs [r1, r2, r3, r4])) => or_any v [r1, r2, r3, r4] W (by simp) h)
  unfold Fc.val Fc.row at *
  go_enter Try.func11, Try.ntmps11
  go_wp2_with fail
  refine wp_region_T [(0, 1), (1, 1), (2, 0), (3, 1), (4, 1), (5, 0), (7, 1), (8, 1), (9, 0), (10, 1), (11, 1), (12, 1), (13, 0), (14, 1), (16, 1), (17, 1), (18, 0), (19, 1), (20, 1), (21, 0), (23, 1), (24, 0), (25, 1), (26, 0), (6, 2), (15, 2), (22, 2), (27, 2), (28, 2), (29, 2), (30, 1)] (by kernel_rfl) (by kernel_rfl) (fun _ _ _ _ h => h) ?_
  have HS := hide HS.out.drew
  have a0 := HS.out.cell 1 rfl 0
  have a1 := HS.out.cell 1 rfl 1
  have a2 := HS.out.cell 1 rfl 2
  have b0 := HS.out.cell 0 rfl 0
  have b1 := HS.out.cell 0 rfl 1
  have b2 := HS.out.cell 0 rfl 2
  go_wp2_with (first
    | (go_at_call 28; (with_reducible refine (H1.out _).mono ?_); rintro e w' ⟨rfl, rfl⟩)
    | (go_at_call 29; (with_reducible refine (H2.out _).mono ?_); rintro e w' ⟨rfl, rfl⟩)
    | (go_at_call 30; (with_reducible refine (H3.out _ HS.out.below).mono ?_); rintro e w3 ⟨rfl, hb⟩; have HS := hide (HS.out.call hb); have a0 := HS.out.cell 1 rfl 0; have a1 := HS.out.cell 1 rfl 1; have a2 := HS.out.cell 1 rfl 2; have b0 := HS.out.cell 0 rfl 0; have b1 := HS.out.cell 0 rfl 1; have b2 := HS.out.cell 0 rfl 2)
    | (go_at_call 32; (with_reducible refine (H4.out _).mono ?_); rintro e w4 ⟨rfl, rfl⟩; have HR : Hid (Rd (w3.alloc (.cells #[.int .i64 r1, .int .i64 r2, .int .i64 r3, .int .i64 r4] 3)) (.slice (some ⟨w3.heap.size, 0, none⟩) 4 4) 1 4 (ivs [r1, r2, r3, r4])) := hide (rd_new w3 (ivs [r1, r2, r3, r4]) 3 1 4 rfl (by decide)); have hb4 : Below w3.heap.size w3 (w3.alloc (.cells #[.int .i64 r1, .int .i64 r2, .int .i64 r3, .int .i64 r4] 3)) := (Below.refl _ _).al _; have HS := hide (HS.out.call hb4))
    | (go_at_call 27; (with_reducible refine (H5.out _ _ HR.out).mono ?_); rintro e w5 ⟨rfl, rfl⟩)
    | (refine wpT_nil ?_)   | ((with_reducible refine fromT_refl ?_); (try simp only [Act.put, nq1, nq2, nq3, nq4, nq5, nq6]))   | ((with_reducible refine fromT_mk (by assumption) ?_); (try simp only [Act.put, nq1, nq2, nq3, nq4, nq5, nq6]))   | (refine wpT_pure (v := ?_) rfl rfl ?_ ?_; rotate_left; (intro wx; go_simp; try go_bits) <;> (with_reducible rfl); (try simp only [Act.put, nq1, nq2, nq3, nq4, nq5, nq6]))   | (refine wpT_load (v := ?_) rfl rfl rfl ?_ ?_; rotate_left; (go_simp; try go_bits) <;> (with_reducible rfl); (try simp only [Act.put, nq1, nq2, nq3, nq4, nq5, nq6]))   | (refine wpT_read (v := ?_) rfl rfl ?_ ?_; rotate_left; (intro wx hx; go_simp; try go_bits) <;> (with_reducible rfl); (try simp only [Act.put, nq1, nq2, nq3, nq4, nq5, nq6]))   | (refine wpT_call rfl rfl ?_; intro K hK)   | (refine wpT_late rfl rfl ?_; intro K hK)   | (refine wpT_any rfl rfl ?_; intro K hK)   | (refine wpT_skip rfl rfl ?_; (try simp only [Act.put, nq1, nq2, nq3, nq4, nq5, nq6])))
  go_ret
  rw [HV.out]
  exact ⟨rfl, HS.out.below⟩
theorem sign18_any (b : Bool) (w : World) : Calls Try.prog 44 #[.bool b] w fun e w' => e = .returned (.int .i64 (sgn b)) ∧ w = w' := by
  cases b
  · go_enter Try.func44, Try.ntmps44
    go_wp2_with fail
    go_ret
    exact ⟨rfl, rfl⟩
  · go_enter Try.func44, Try.ntmps44
    go_wp2_with fail
    go_ret
    exact ⟨rfl, rfl⟩
end Go.Proofs.Ythpioncehigoaaa
